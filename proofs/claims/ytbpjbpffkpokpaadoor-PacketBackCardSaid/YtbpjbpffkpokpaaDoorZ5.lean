/- Own texts of this claim, in build order: WireW, WireR, WireX, Pa, Pb, WireB, Pk, WireV, WireN, Pm, Pc, Po, Py. -/
import Derived.Test.YtbpjbpffkpokpaaDoorZ4
import Derived.Lib.Bytealg
import Derived.KernelRfl
section
set_option maxRecDepth 100000
set_option maxHeartbeats 4000000
set_option autoImplicit false
set_option linter.unusedVariables false
set_option linter.unusedSimpArgs false
namespace Go.LX
open Go.Proofs

/-! ## The library's builder, inside of a writer -/
theorem noesc : ∀ (v : Value) (w : World), (callFunc 48 #[v]).run Tryd.prog w = .ok (.value v) w := by
  intro v w
  rw [Go.run_callFunc_extern Tryd.func48 (by kernel_rfl) (by kernel_rfl) (by kernel_rfl) (e := Extern.AbiNoEscape.same) (by kernel_rfl)]
  rfl
theorem info_bld : ∃ j, Tryd.prog.info? 32 = some j ∧ j.size ≠ 0 := by
  have h : (Tryd.prog.info? 32).map (·.size) = some 2 := by kernel_rfl
  cases hj : Tryd.prog.info? 32 with
  | none => rw [hj] at h; cases h
  | some j =>
    rw [hj] at h
    refine ⟨j, rfl, ?_⟩
    have h2 : j.size = 2 := by simpa using h
    omega
theorem conv_to : PtrConv Tryd.prog 29 91 34 3 1 := by
  obtain ⟨j, h1, h2⟩ := info_bld
  exact .to Tryd.underlying29 (by kernel_rfl) h1 h2 (by decide)
theorem conv_back : PtrConv Tryd.prog 91 29 34 3 1 := by
  obtain ⟨j, h1, h2⟩ := info_bld
  exact .back (by kernel_rfl) Tryd.underlying29 h1 (by kernel_rfl)
theorem bys_one (l : List UInt8) (b : UInt8) : bys l ++ [CV.int .u8 (b.toNat : Int)] = bys (l ++ [b]) := by simp [bys]
def copyS : Spec := fun args H Q => match args, H with
  | [.ptr 0 1], [.cells [x, .opt 0 1, y] 34, o] => Q (.tuple []) [.cells [x, .ptr 0 1, y] 34, o]
  | _, _ => False
theorem copy_c : Meets Tryd.prog [] 39 copyS := by
  refine meets_of Γok Tryd.func39 rfl ?_
  intro args H Q h
  unfold copyS at h
  split at h
  case h_2 => exact h.elim
  refine Wp.opt 0 1 0 1 rfl rfl ?_ ?_
  · (refine sx_sound Γok _ ?_; conv => whnf)
    refine ⟨_, rfl, ?_⟩
    (conv => whnf)
    (repeat (first | (refine Both.lit_true ?_; conv => whnf) | (refine Both.lit_false ?_; conv => whnf) | (refine Need.mk ?_ ?_; (focus (first | omega | exact ⟨by omega, by omega⟩ | rfl | exact ⟨rfl, rfl⟩ | exact ⟨rfl, Nat.le_of_ble_eq_true rfl⟩ | exact Nat.le_of_ble_eq_true rfl | (refine ⟨rfl, rfl, ?_⟩; simp [isFar, ofV0, CV.up, SV.renL, SV.ren] <;> fail) | (refine ⟨rfl, Nat.le_of_ble_eq_true rfl, ?_⟩; simp [isFar, ofV0, CV.up, SV.renL, SV.ren] <;> fail) | (simp <;> fail))); conv => whnf)))
    refine Need.mk conv_to ?_
    (conv => whnf)
    refine CallVC.same noesc ?_
    (conv => whnf)
    refine Need.mk conv_back ?_
    (conv => whnf)
    (repeat (first | (refine Both.lit_true ?_; conv => whnf) | (refine Both.lit_false ?_; conv => whnf) | (refine Need.mk ?_ ?_; (focus (first | omega | exact ⟨by omega, by omega⟩ | rfl | exact ⟨rfl, rfl⟩ | exact ⟨rfl, Nat.le_of_ble_eq_true rfl⟩ | exact Nat.le_of_ble_eq_true rfl | (refine ⟨rfl, rfl, ?_⟩; simp [isFar, ofV0, CV.up, SV.renL, SV.ren] <;> fail) | (refine ⟨rfl, Nat.le_of_ble_eq_true rfl, ?_⟩; simp [isFar, ofV0, CV.up, SV.renL, SV.ren] <;> fail) | (simp <;> fail))); conv => whnf)))
    exact ⟨_, _, WeakV.refl _ _ _ _, h⟩
  · (refine sx_sound Γok _ ?_; conv => whnf)
    refine ⟨_, rfl, ?_⟩
    (conv => whnf)
    (repeat (first | (refine Both.lit_true ?_; conv => whnf) | (refine Both.lit_false ?_; conv => whnf) | (refine Need.mk ?_ ?_; (focus (first | omega | exact ⟨by omega, by omega⟩ | rfl | exact ⟨rfl, rfl⟩ | exact ⟨rfl, Nat.le_of_ble_eq_true rfl⟩ | exact Nat.le_of_ble_eq_true rfl | (refine ⟨rfl, rfl, ?_⟩; simp [isFar, ofV0, CV.up, SV.renL, SV.ren] <;> fail) | (refine ⟨rfl, Nat.le_of_ble_eq_true rfl, ?_⟩; simp [isFar, ofV0, CV.up, SV.renL, SV.ren] <;> fail) | (simp <;> fail))); conv => whnf)))
    refine ⟨_, rfl, ?_⟩
    (conv => whnf)
    (repeat (first | (refine Both.lit_true ?_; conv => whnf) | (refine Both.lit_false ?_; conv => whnf) | (refine Need.mk ?_ ?_; (focus (first | omega | exact ⟨by omega, by omega⟩ | rfl | exact ⟨rfl, rfl⟩ | exact ⟨rfl, Nat.le_of_ble_eq_true rfl⟩ | exact Nat.le_of_ble_eq_true rfl | (refine ⟨rfl, rfl, ?_⟩; simp [isFar, ofV0, CV.up, SV.renL, SV.ren] <;> fail) | (refine ⟨rfl, Nat.le_of_ble_eq_true rfl, ?_⟩; simp [isFar, ofV0, CV.up, SV.renL, SV.ren] <;> fail) | (simp <;> fail))); conv => whnf)))
    exact ⟨_, _, WeakV.refl _ _ _ _, h⟩
theorem copy_k : Contract Tryd.prog [] 39 copyS := ⟨⟨⟨_, rfl, rfl, rfl⟩⟩, copy_c⟩
def wbS : Spec := fun args H Q => match args, H with
  | [.ptr 0 1, .int .u8 n], [.cells [.int .i64 x, .opt 0 1, .own 1] 34, .own 5 1 m xs true] => ∃ (l : List UInt8) (b : UInt8), n = (b.toNat : Int) ∧ xs = bys l ∧ m = l.length ∧ l.length < 1000000000 ∧ Q .any [.cells [.int .i64 x, .opt 0 1, .own 2] 34, .gone, .own 5 1 (l.length + 1) (bys (l ++ [b])) true]
  | _, _ => False
theorem wb_c : Meets Tryd.prog [] 49 wbS := by
  refine meets_of Γok Tryd.func49 rfl ?_
  intro args H Q h
  unfold wbS at h
  split at h
  case h_2 => exact h.elim
  obtain ⟨l, b, rfl, rfl, rfl, hl, h⟩ := h
  (refine sx_sound Γok _ ?_; conv => whnf)
  all_goals
    refine CallVC.auto copy_k ?_
    (conv => whnf)
    (repeat (first | (refine Both.lit_true ?_; conv => whnf) | (refine Both.lit_false ?_; conv => whnf) | (refine Need.mk ?_ ?_; (focus (first | omega | exact ⟨by omega, by omega⟩ | rfl | exact ⟨rfl, rfl⟩ | exact ⟨rfl, Nat.le_of_ble_eq_true rfl⟩ | exact Nat.le_of_ble_eq_true rfl | (refine ⟨rfl, rfl, ?_⟩; simp [isFar, ofV0, CV.up, SV.renL, SV.ren] <;> fail) | (refine ⟨rfl, Nat.le_of_ble_eq_true rfl, ?_⟩; simp [isFar, ofV0, CV.up, SV.renL, SV.ren] <;> fail) | (simp <;> fail))); conv => whnf)))
    refine ⟨_, rfl, ?_⟩
    (conv => whnf)
    (repeat (first | (refine Both.lit_true ?_; conv => whnf) | (refine Both.lit_false ?_; conv => whnf) | (refine Need.mk ?_ ?_; (focus (first | omega | exact ⟨by omega, by omega⟩ | rfl | exact ⟨rfl, rfl⟩ | exact ⟨rfl, Nat.le_of_ble_eq_true rfl⟩ | exact Nat.le_of_ble_eq_true rfl | (refine ⟨rfl, rfl, ?_⟩; simp [isFar, ofV0, CV.up, SV.renL, SV.ren] <;> fail) | (refine ⟨rfl, Nat.le_of_ble_eq_true rfl, ?_⟩; simp [isFar, ofV0, CV.up, SV.renL, SV.ren] <;> fail) | (simp <;> fail))); conv => whnf)))
    refine Need.mk (by rw [show ti5.bytes = 1 from rfl]; omega) ?_
    (conv => whnf)
    (repeat (first | (refine Both.lit_true ?_; conv => whnf) | (refine Both.lit_false ?_; conv => whnf) | (refine Need.mk ?_ ?_; (focus (first | omega | exact ⟨by omega, by omega⟩ | rfl | exact ⟨rfl, rfl⟩ | exact ⟨rfl, Nat.le_of_ble_eq_true rfl⟩ | exact Nat.le_of_ble_eq_true rfl | (refine ⟨rfl, rfl, ?_⟩; simp [isFar, ofV0, CV.up, SV.renL, SV.ren] <;> fail) | (refine ⟨rfl, Nat.le_of_ble_eq_true rfl, ?_⟩; simp [isFar, ofV0, CV.up, SV.renL, SV.ren] <;> fail) | (simp <;> fail))); conv => whnf)))
    refine ⟨_, _, WeakV.to [0, 1, 2] rfl rfl rfl rfl ?_, h⟩
    (repeat' ((conv => whnf); first | exact True.intro | (refine And.intro ?_ ?_)))
    all_goals first | rfl | exact .eq rfl | exact .pt ⟨rfl, ⟨rfl, rfl⟩, rfl, trivial⟩ | (rw [← bys_one]; rfl)

theorem wb_k : Contract Tryd.prog [] 49 wbS := ⟨⟨⟨_, rfl, rfl, rfl⟩⟩, wb_c⟩
theorem bys_app (l s : List UInt8) : bys l ++ bys s = bys (l ++ s) := by simp [bys]
def wsS : Spec := fun args H Q => match args, H with
  | [.ptr 0 1, .str s], [.cells [.int .i64 x, .opt 0 1, .own 1] 34, .own 5 1 m xs true] => ∃ (l : List UInt8), xs = bys l ∧ m = l.length ∧ l.length < 1000000000 ∧ s.length < 1000000000 ∧ Q (.tuple [.int .i64 s.length, .any]) [.cells [.int .i64 x, .opt 0 1, .own 2] 34, .gone, .own 5 1 (l.length + s.length) (bys (l ++ s)) true]
  | _, _ => False
theorem ws_c : Meets Tryd.prog [] 21 wsS := by
  refine meets_of Γok Tryd.func21 rfl ?_
  intro args H Q h
  unfold wsS at h
  split at h
  case h_2 => exact h.elim
  obtain ⟨l, rfl, rfl, hl, hs, h⟩ := h
  (refine sx_sound Γok _ ?_; conv => whnf)
  all_goals
    refine CallVC.auto copy_k ?_
    (conv => whnf)
    (repeat (first | (refine Both.lit_true ?_; conv => whnf) | (refine Both.lit_false ?_; conv => whnf) | (refine Need.mk ?_ ?_; (focus (first | omega | exact ⟨by omega, by omega⟩ | rfl | exact ⟨rfl, rfl⟩ | exact ⟨rfl, Nat.le_of_ble_eq_true rfl⟩ | exact Nat.le_of_ble_eq_true rfl | (refine ⟨rfl, rfl, ?_⟩; simp [isFar, ofV0, CV.up, SV.renL, SV.ren] <;> fail) | (refine ⟨rfl, Nat.le_of_ble_eq_true rfl, ?_⟩; simp [isFar, ofV0, CV.up, SV.renL, SV.ren] <;> fail) | (simp <;> fail))); conv => whnf)))
    refine ⟨_, rfl, ?_⟩
    (conv => whnf)
    (repeat (first | (refine Both.lit_true ?_; conv => whnf) | (refine Both.lit_false ?_; conv => whnf) | (refine Need.mk ?_ ?_; (focus (first | omega | exact ⟨by omega, by omega⟩ | rfl | exact ⟨rfl, rfl⟩ | exact ⟨rfl, Nat.le_of_ble_eq_true rfl⟩ | exact Nat.le_of_ble_eq_true rfl | (refine ⟨rfl, rfl, ?_⟩; simp [isFar, ofV0, CV.up, SV.renL, SV.ren] <;> fail) | (refine ⟨rfl, Nat.le_of_ble_eq_true rfl, ?_⟩; simp [isFar, ofV0, CV.up, SV.renL, SV.ren] <;> fail) | (simp <;> fail))); conv => whnf)))
    refine Need.mk (by rw [show ti5.bytes = 1 from rfl]; omega) ?_
    (conv => whnf)
    (repeat (first | (refine Both.lit_true ?_; conv => whnf) | (refine Both.lit_false ?_; conv => whnf) | (refine Need.mk ?_ ?_; (focus (first | omega | exact ⟨by omega, by omega⟩ | rfl | exact ⟨rfl, rfl⟩ | exact ⟨rfl, Nat.le_of_ble_eq_true rfl⟩ | exact Nat.le_of_ble_eq_true rfl | (refine ⟨rfl, rfl, ?_⟩; simp [isFar, ofV0, CV.up, SV.renL, SV.ren] <;> fail) | (refine ⟨rfl, Nat.le_of_ble_eq_true rfl, ?_⟩; simp [isFar, ofV0, CV.up, SV.renL, SV.ren] <;> fail) | (simp <;> fail))); conv => whnf)))
    refine ⟨_, _, WeakV.to [0, 1, 2] rfl rfl rfl rfl ?_, h⟩
    (repeat' ((conv => whnf); first | exact True.intro | (refine And.intro ?_ ?_)))
    all_goals first | rfl | exact .eq rfl | exact .pt ⟨rfl, ⟨rfl, rfl⟩, rfl, trivial⟩ | (rw [← bys_app]; rfl)
theorem ws_k : Contract Tryd.prog [] 21 wsS := ⟨⟨⟨_, rfl, rfl, rfl⟩⟩, ws_c⟩
def strS : Spec := fun args H Q => match args, H with
  | [.ptr 0 1], [.cells [.int .i64 x, .opt 0 1, .own 1] 34, .own 5 1 m xs true] => ∃ (l : List UInt8), xs = bys l ∧ m = l.length ∧ l.length < 1000000000000 ∧ Q (.str l) [.cells [.int .i64 x, .opt 0 1, .own 1] 34, .gone]
  | _, _ => False
theorem str_c : Meets Tryd.prog [] 26 strS := by
  refine meets_of Γok Tryd.func26 rfl ?_
  intro args H Q h
  unfold strS at h
  split at h
  case h_2 => exact h.elim
  obtain ⟨l, rfl, rfl, hl, h⟩ := h
  cases l with
  | nil =>
    all_goals
      (refine sx_sound Γok _ ?_; conv => whnf)
      refine DrawVC.all Γok (by kernel_rfl) (by kernel_rfl) ?_
      (conv => whnf)
      (repeat (first | (exact Out.same; conv => whnf) | (exact Out1.same; conv => whnf) | (refine QAnd.mk ?_ ?_; conv => whnf) | (apply QStepH.go; conv => whnf) | (refine Both.lit_true ?_; conv => whnf) | (refine Both.lit_false ?_; conv => whnf) | (apply QStep.go; conv => whnf) | (refine Need.mk ?_ ?_; (focus (first | omega | exact ⟨by omega, by omega⟩ | rfl | exact ⟨rfl, rfl⟩ | exact ⟨rfl, Nat.le_of_ble_eq_true rfl⟩ | exact Nat.le_of_ble_eq_true rfl | (refine ⟨rfl, rfl, ?_⟩; simp [isFar, ofV0, CV.up, SV.renL, SV.ren] <;> fail) | (refine ⟨rfl, Nat.le_of_ble_eq_true rfl, ?_⟩; simp [isFar, ofV0, CV.up, SV.renL, SV.ren] <;> fail) | (simp <;> fail))); conv => whnf)))
      (refine ⟨_, rfl, ?_⟩; conv => whnf)
      (repeat (first | (exact Out.same; conv => whnf) | (exact Out1.same; conv => whnf) | (refine QAnd.mk ?_ ?_; conv => whnf) | (apply QStepH.go; conv => whnf) | (refine Both.lit_true ?_; conv => whnf) | (refine Both.lit_false ?_; conv => whnf) | (apply QStep.go; conv => whnf) | (refine Need.mk ?_ ?_; (focus (first | omega | exact ⟨by omega, by omega⟩ | rfl | exact ⟨rfl, rfl⟩ | exact ⟨rfl, Nat.le_of_ble_eq_true rfl⟩ | exact Nat.le_of_ble_eq_true rfl | (refine ⟨rfl, rfl, ?_⟩; simp [isFar, ofV0, CV.up, SV.renL, SV.ren] <;> fail) | (refine ⟨rfl, Nat.le_of_ble_eq_true rfl, ?_⟩; simp [isFar, ofV0, CV.up, SV.renL, SV.ren] <;> fail) | (simp <;> fail))); conv => whnf)))
      (refine ⟨_, rfl, ?_⟩; conv => whnf)
      (repeat (first | (exact Out.same; conv => whnf) | (exact Out1.same; conv => whnf) | (refine QAnd.mk ?_ ?_; conv => whnf) | (apply QStepH.go; conv => whnf) | (refine Both.lit_true ?_; conv => whnf) | (refine Both.lit_false ?_; conv => whnf) | (apply QStep.go; conv => whnf) | (refine Need.mk ?_ ?_; (focus (first | omega | exact ⟨by omega, by omega⟩ | rfl | exact ⟨rfl, rfl⟩ | exact ⟨rfl, Nat.le_of_ble_eq_true rfl⟩ | exact Nat.le_of_ble_eq_true rfl | (refine ⟨rfl, rfl, ?_⟩; simp [isFar, ofV0, CV.up, SV.renL, SV.ren] <;> fail) | (refine ⟨rfl, Nat.le_of_ble_eq_true rfl, ?_⟩; simp [isFar, ofV0, CV.up, SV.renL, SV.ren] <;> fail) | (simp <;> fail))); conv => whnf)))
      refine ⟨_, _, WeakV.to [0, 1] rfl rfl rfl rfl ?_, h⟩
      (repeat' ((conv => whnf); first | exact True.intro | (refine And.intro ?_ ?_)))
      all_goals first | rfl | exact .eq rfl | exact .pt ⟨rfl, ⟨rfl, rfl⟩, rfl, trivial⟩
  | cons b l =>
    all_goals
      (refine sx_sound Γok _ ?_; conv => whnf)
      refine DrawVC.tail Γok 10 (by kernel_rfl) (by kernel_rfl) ?_
      (conv => whnf)
      (repeat (first | (refine Both.lit_true ?_; conv => whnf) | (refine Both.lit_false ?_; conv => whnf) | (refine Need.mk ?_ ?_; (focus (first | omega | exact ⟨by omega, by omega⟩ | rfl | exact ⟨rfl, rfl⟩ | exact ⟨rfl, Nat.le_of_ble_eq_true rfl⟩ | exact Nat.le_of_ble_eq_true rfl | (refine ⟨rfl, rfl, ?_⟩; simp [isFar, ofV0, CV.up, SV.renL, SV.ren] <;> fail) | (refine ⟨rfl, Nat.le_of_ble_eq_true rfl, ?_⟩; simp [isFar, ofV0, CV.up, SV.renL, SV.ren] <;> fail) | (simp <;> fail))); conv => whnf)))
      (refine ⟨_, rfl, ?_⟩; conv => whnf)
      (repeat (first | (refine Both.lit_true ?_; conv => whnf) | (refine Both.lit_false ?_; conv => whnf) | (refine Need.mk ?_ ?_; (focus (first | omega | exact ⟨by omega, by omega⟩ | rfl | exact ⟨rfl, rfl⟩ | exact ⟨rfl, Nat.le_of_ble_eq_true rfl⟩ | exact Nat.le_of_ble_eq_true rfl | (refine ⟨rfl, rfl, ?_⟩; simp [isFar, ofV0, CV.up, SV.renL, SV.ren] <;> fail) | (refine ⟨rfl, Nat.le_of_ble_eq_true rfl, ?_⟩; simp [isFar, ofV0, CV.up, SV.renL, SV.ren] <;> fail) | (simp <;> fail))); conv => whnf)))
      try (refine Need.mk (Nat.succ_pos _) ?_; conv => whnf)
      (refine ⟨_, rfl, ?_⟩; conv => whnf)
      (repeat (first | (refine Both.lit_true ?_; conv => whnf) | (refine Both.lit_false ?_; conv => whnf) | (refine Need.mk ?_ ?_; (focus (first | omega | exact ⟨by omega, by omega⟩ | rfl | exact ⟨rfl, rfl⟩ | exact ⟨rfl, Nat.le_of_ble_eq_true rfl⟩ | exact Nat.le_of_ble_eq_true rfl | (refine ⟨rfl, rfl, ?_⟩; simp [isFar, ofV0, CV.up, SV.renL, SV.ren] <;> fail) | (refine ⟨rfl, Nat.le_of_ble_eq_true rfl, ?_⟩; simp [isFar, ofV0, CV.up, SV.renL, SV.ren] <;> fail) | (simp <;> fail))); conv => whnf)))
      refine ⟨b :: l, rfl, ?_⟩
      refine Need.mk ⟨rfl, rfl, rfl, rfl, Nat.succ_pos _, by omega, by kernel_rfl⟩ ?_
      (conv => whnf)
      (repeat (first | (refine Both.lit_true ?_; conv => whnf) | (refine Both.lit_false ?_; conv => whnf) | (refine Need.mk ?_ ?_; (focus (first | omega | exact ⟨by omega, by omega⟩ | rfl | exact ⟨rfl, rfl⟩ | exact ⟨rfl, Nat.le_of_ble_eq_true rfl⟩ | exact Nat.le_of_ble_eq_true rfl | (refine ⟨rfl, rfl, ?_⟩; simp [isFar, ofV0, CV.up, SV.renL, SV.ren] <;> fail) | (refine ⟨rfl, Nat.le_of_ble_eq_true rfl, ?_⟩; simp [isFar, ofV0, CV.up, SV.renL, SV.ren] <;> fail) | (simp <;> fail))); conv => whnf)))
      refine ⟨_, _, WeakV.to [0, 1] rfl rfl rfl rfl ?_, h⟩
      (repeat' ((conv => whnf); first | exact True.intro | (refine And.intro ?_ ?_)))
      all_goals first | rfl | exact .eq rfl | exact .pt ⟨rfl, ⟨rfl, rfl⟩, rfl, trivial⟩
theorem str_k : Contract Tryd.prog [] 26 strS := ⟨⟨⟨_, rfl, rfl, rfl⟩⟩, str_c⟩

/-! ## A first error; a writer -/
def failS : Spec := fun args H Q => match args, H with
  | [.ptr 0 0, .int .i64 n], .cells (.int .i64 e :: r) t :: H' => (t = 34 ∨ t = 67) ∧ Q (.tuple []) (.cells (.int .i64 (if e = 0 then n else e) :: r) t :: H')
  | _, _ => False
theorem fail_c : Meets Tryd.prog [] 27 failS := by
  refine meets_of Γok Tryd.func27 rfl ?_
  intro args H Q h
  unfold failS at h
  split at h
  case h_2 => exact h.elim
  obtain ⟨ht, h⟩ := h
  rcases ht with rfl | rfl
  all_goals
    (refine sx_sound Γok _ ?_; conv => whnf)
    (refine ⟨_, rfl, ?_⟩; conv => whnf)
    refine Both.dec (fun he => ?_) (fun he => ?_)
    · (conv => whnf)
      (repeat (first | (refine Both.lit_true ?_; conv => whnf) | (refine Both.lit_false ?_; conv => whnf) | (refine Need.mk ?_ ?_; (focus (first | omega | exact ⟨by omega, by omega⟩ | rfl | exact ⟨rfl, rfl⟩ | exact ⟨rfl, Nat.le_of_ble_eq_true rfl⟩ | exact Nat.le_of_ble_eq_true rfl | (refine ⟨rfl, rfl, ?_⟩; simp [isFar, ofV0, CV.up, SV.renL, SV.ren] <;> fail) | (refine ⟨rfl, Nat.le_of_ble_eq_true rfl, ?_⟩; simp [isFar, ofV0, CV.up, SV.renL, SV.ren] <;> fail) | (simp <;> fail))); conv => whnf)))
      rw [if_pos he] at h
      exact ⟨_, _, WeakV.refl _ _ _ _, h⟩
    · (conv => whnf)
      rw [if_neg he] at h
      exact ⟨_, _, WeakV.refl _ _ _ _, h⟩
theorem fail_k : Contract Tryd.prog [] 27 failS := ⟨⟨⟨_, rfl, rfl, rfl⟩⟩, fail_c⟩
def errS : Spec := fun args H Q => match args, H with
  | [.ptr 0 0], .cells (.int .i64 e :: r) t :: H' => (t = 34 ∨ t = 67) ∧ Q (.int .i64 e) (.cells (.int .i64 e :: r) t :: H')
  | _, _ => False
theorem err_c : Meets Tryd.prog [] 25 errS := by
  refine meets_of Γok Tryd.func25 rfl ?_
  intro args H Q h
  unfold errS at h
  split at h
  case h_2 => exact h.elim
  obtain ⟨ht, h⟩ := h
  rcases ht with rfl | rfl
  all_goals
    (refine sx_sound Γok _ ?_; conv => whnf)
    (refine ⟨_, rfl, ?_⟩; conv => whnf)
    exact ⟨_, _, WeakV.refl _ _ _ _, h⟩
theorem err_k : Contract Tryd.prog [] 25 errS := ⟨⟨⟨_, rfl, rfl, rfl⟩⟩, err_c⟩

/-- A number's bytes, the greatest first. -/
def beb (n : Nat) : Nat → List UInt8
  | 0 => []
  | k + 1 => UInt8.ofNat (n / 256 ^ k) :: beb n k
theorem beb_length (n : Nat) : ∀ k, (beb n k).length = k
  | 0 => rfl
  | k + 1 => by rw [beb, List.length_cons, beb_length n k]
theorem beb_get (n : Nat) : ∀ (k j : Nat), j < k → (beb n k)[j]? = some (UInt8.ofNat (n / 256 ^ (k - 1 - j)))
  | 0, j, h => by omega
  | k + 1, 0, h => by simp [beb]
  | k + 1, j + 1, h => by
    rw [beb, List.getElem?_cons_succ, beb_get n k j (by omega)]
    congr 4
    omega
theorem beb_take (n k j : Nat) (h : j < k) : (beb n k).take j ++ [UInt8.ofNat (n / 256 ^ (k - 1 - j))] = (beb n k).take (j + 1) := by
  have hl : j < (beb n k).length := by rw [beb_length]; exact h
  rw [List.take_succ_eq_append_getElem hl]
  congr 2
  have := beb_get n k j h
  rw [List.getElem?_eq_getElem hl] at this
  exact (Option.some.inj this).symm
/-- The writer's objects. -/
def wr (e : Int) (l : List UInt8) : List LObj := [.cells [.int .i64 e, .opt 0 1, .own 1] 34, .own 5 1 l.length (bys l) true]
def wrN (e : Int) (l : List UInt8) : List LObj := [.cells [.int .i64 e, .opt 0 1, .own 2] 34, .gone, .own 5 1 l.length (bys l) true]
def putS : Spec := fun args H Q => match args, H with
  | [.ptr 0 0, .int .u64 n, .int .i64 k], [.cells [.int .i64 e, .opt 0 1, .own 1] 34, .own 5 1 m xs true] => ∃ (l : List UInt8) (v c : Nat), xs = bys l ∧ m = l.length ∧ l.length < 100000000 ∧ n = v ∧ v < 18446744073709551616 ∧ k = c ∧ 0 < c ∧ c ≤ 8 ∧
    Q (.tuple []) (wrN e (l ++ beb v c))
  | _, _ => False
theorem byte_go (v k : Nat) (hk : k ≤ 7) : IntKind.u8.wrap (shrI .u64 (v : Int) (8 * (k : Int))) = ((UInt8.ofNat (v / 256 ^ k)).toNat : Int) := by
  unfold shrI
  have : min (8 * (k : Int)).toNat IntKind.u64.bits = 8 * k := by
    simp only [IntKind.bits]
    omega
  rw [this, Int.fdiv_eq_ediv_of_nonneg _ (by exact Int.pow_nonneg (by decide)), wrap_u8_mod, show ((2 : Int) ^ (8 * k)) = ((256 ^ k : Nat) : Int) by rw [show (256 : Nat) = 2 ^ 8 from rfl, ← Nat.pow_mul]; simp]
  simp
theorem put_c : Meets Tryd.prog [] 40 putS := by
  refine meets_of Γok Tryd.func40 rfl ?_
  intro args H Q h
  unfold putS at h
  split at h
  case h_2 => exact h.elim
  rename_i e m xs
  obtain ⟨l, v, c, rfl, rfl, hl, rfl, hv, rfl, hc, hc8, h⟩ := h
  (refine sx_sound Γok _ ?_; conv => whnf)
  rw [wrap_i64 (n := (c : Int) - 1) (by omega) (by omega)]
  refine loop_rule (fun j : Nat => ⟨[.ptr 0 0, .int .u64 (v : Int), .any, .any, .any, .any, .int .i64 ((c : Int) - 1 - j), .any, .any, .any, .any, .any, .any, .any, .any, .any, .any, .any, .any, .any, .any, .any], wrN e (l ++ (beb v c).take j)⟩) (fun j => j ≤ c) (fun j => c - j) 0 (by omega) ?_ ?_
  · refine (Weak.fresh 1 0 2 rfl rfl rfl).trans (Weak.le ?_ ?_)
    · (repeat' ((conv => whnf); first | exact True.intro | (refine And.intro ?_ ?_)))
      all_goals first | rfl | (congr 1; omega)
    · (repeat' ((conv => whnf); first | exact True.intro | (refine And.intro ?_ ?_)))
      all_goals first | rfl | exact .eq rfl | exact .pt ⟨rfl, ⟨rfl, rfl⟩, rfl, trivial⟩ | (rw [List.take_zero, List.append_nil])
  · intro j hj
    (refine sx_sound Γok _ ?_; conv => whnf)
    refine Both.dec (fun hlt => ?_) (fun hge => ?_)
    · (conv => whnf)
      refine DrawVC.tail Γok 8 (by kernel_rfl) (by kernel_rfl) ?_
      (conv => whnf)
      rw [show (c : Int) - 1 - j = ((c - 1 - j : Nat) : Int) by omega, wrap_i64 (n := 8 * ((c - 1 - j : Nat) : Int)) (by omega) (by omega)]
      (repeat (first | (refine Both.lit_true ?_; conv => whnf) | (refine Both.lit_false ?_; conv => whnf) | (refine Need.mk ?_ ?_; (focus (first | omega | exact ⟨by omega, by omega⟩ | rfl | exact ⟨rfl, rfl⟩ | exact ⟨rfl, Nat.le_of_ble_eq_true rfl⟩ | exact Nat.le_of_ble_eq_true rfl | (refine ⟨rfl, rfl, ?_⟩; simp [isFar, ofV0, CV.up, SV.renL, SV.ren] <;> fail) | (refine ⟨rfl, Nat.le_of_ble_eq_true rfl, ?_⟩; simp [isFar, ofV0, CV.up, SV.renL, SV.ren] <;> fail) | (simp <;> fail))); conv => whnf)))
      rw [byte_go v (c - 1 - j) (by omega)]
      refine CallVC.of [0, 2] wb_k ⟨_, _, rfl, rfl, rfl, by simp; omega, ?_⟩
      (conv => whnf)
      refine ⟨j + 1, by omega, by omega, Weak.to [0, 1, 3] rfl rfl rfl ?_ ?_⟩
      · (repeat' ((conv => whnf); first | exact True.intro | (refine And.intro ?_ ?_)))
        all_goals first | rfl | exact congrArg (SV.int .i64) (by rw [wrap_i64 (by omega) (by omega)]; omega)
      · (repeat' ((conv => whnf); first | exact True.intro | (refine And.intro ?_ ?_)))
        all_goals first | rfl | exact .eq rfl | exact .pt ⟨rfl, ⟨rfl, rfl⟩, rfl, trivial⟩ | (refine Eq.trans (b := LObj.own 5 1 ((l ++ (beb v c).take j).length + 1) (bys ((l ++ (beb v c).take j) ++ [UInt8.ofNat (v / 256 ^ (c - 1 - j))])) true) rfl ?_; rw [List.append_assoc, beb_take v c j (by omega)]; congr 1; simp [beb_length]; omega)
    · obtain rfl : j = c := by omega
      (conv => whnf)
      refine ⟨_, _, WeakV.refl _ _ _ _, ?_⟩
      rw [List.take_of_length_le (by rw [beb_length]; omega)]
      exact h
theorem put_k : Contract Tryd.prog [] 40 putS := ⟨⟨⟨_, rfl, rfl, rfl⟩⟩, put_c⟩

/-- A writer's step: the error, whether it wrote, what is written. -/
structure WS where
  e : Int
  l : List UInt8
def errOf (e : Int) : Int := if e = 0 then 1 else e
/-- What a writer's call gets, and leaves. -/
def wrS (bd : Nat) (args : List SV) (ok : Bool) (more : List UInt8) (H : List LObj) (Q : SV → List LObj → Prop) : Prop :=
  match H with
  | [.cells [.int .i64 e, .opt 0 1, .own 1] 34, .own 5 1 m xs true] => ∃ l : List UInt8, xs = bys l ∧ m = l.length ∧ l.length < bd ∧
    Q (.tuple []) (match ok with
      | true => wrN e (l ++ more)
      | false => wrN (errOf e) l)
  | _ => False
def rawS : Spec := fun args H Q => match args with
  | [.ptr 0 0, .str s] => s.length < 10000000 ∧ wrS 20000000 args true s H Q
  | _ => False
theorem raw_c : Meets Tryd.prog [] 5 rawS := by
  refine meets_of Γok Tryd.func5 rfl ?_
  intro args H Q h
  unfold rawS at h
  split at h
  case h_2 => exact h.elim
  obtain ⟨hs, h⟩ := h
  unfold wrS at h
  split at h
  case h_2 => exact h.elim
  rename_i s _ _ e m xs
  obtain ⟨l, rfl, rfl, hl, h⟩ := h
  all_goals
    (refine sx_sound Γok _ ?_; conv => whnf)
    refine CallVC.of [0, 1] ws_k ⟨_, rfl, rfl, by omega, by omega, ?_⟩
    (conv => whnf)
    refine ⟨_, _, WeakV.to [0, 1, 2] rfl rfl rfl rfl ?_, h⟩
    (repeat' ((conv => whnf); first | exact True.intro | (refine And.intro ?_ ?_)))
    all_goals first | rfl | exact .eq rfl | exact .pt ⟨rfl, ⟨rfl, rfl⟩, rfl, trivial⟩ | (rw [List.length_append]; rfl)
theorem raw_k : Contract Tryd.prog [] 5 rawS := ⟨⟨⟨_, rfl, rfl, rfl⟩⟩, raw_c⟩
def numS : Spec := fun args H Q => match args with
  | [.ptr 0 0, .int .u64 n] => ∃ v : Nat, n = v ∧ v < 18446744073709551616 ∧ wrS 10000000 args true (beb v 8) H Q
  | _ => False
theorem num_c : Meets Tryd.prog [] 23 numS := by
  refine meets_of Γok Tryd.func23 rfl ?_
  intro args H Q h
  unfold numS at h
  split at h
  case h_2 => exact h.elim
  obtain ⟨v, rfl, hv, h⟩ := h
  unfold wrS at h
  split at h
  case h_2 => exact h.elim
  rename_i _ _ e m xs
  obtain ⟨l, rfl, rfl, hl, h⟩ := h
  all_goals
    (refine sx_sound Γok _ ?_; conv => whnf)
    refine CallVC.of [0, 1] put_k ⟨l, v, 8, rfl, rfl, by omega, rfl, hv, rfl, by omega, by omega, ?_⟩
    (conv => whnf)
    refine ⟨_, _, WeakV.to [0, 1, 2] rfl rfl rfl rfl ?_, h⟩
    (repeat' ((conv => whnf); first | exact True.intro | (refine And.intro ?_ ?_)))
    all_goals first | rfl | exact .eq rfl | exact .pt ⟨rfl, ⟨rfl, rfl⟩, rfl, trivial⟩
theorem num_k : Contract Tryd.prog [] 23 numS := ⟨⟨⟨_, rfl, rfl, rfl⟩⟩, num_c⟩
def byteS : Spec := fun args H Q => match args with
  | [.ptr 0 0, .int .i64 n] => wrS 10000000 args (decide (0 ≤ n ∧ n ≤ 255)) [UInt8.ofNat n.toNat] H Q
  | _ => False
theorem byte_c : Meets Tryd.prog [] 22 byteS := by
  refine meets_of Γok Tryd.func22 rfl ?_
  intro args H Q h
  unfold byteS at h
  split at h
  case h_2 => exact h.elim
  unfold wrS at h
  split at h
  case h_2 => exact h.elim
  rename_i n _ e m xs
  obtain ⟨l, rfl, rfl, hl, h⟩ := h
  all_goals
    (refine sx_sound Γok _ ?_; conv => whnf)
    refine Both.dec (fun h0 => ?_) (fun h0 => ?_)
    · (conv => whnf)
      (repeat (first | (refine Both.lit_true ?_; conv => whnf) | (refine Both.lit_false ?_; conv => whnf) | (refine Need.mk ?_ ?_; (focus (first | omega | exact ⟨by omega, by omega⟩ | rfl | exact ⟨rfl, rfl⟩ | exact ⟨rfl, Nat.le_of_ble_eq_true rfl⟩ | exact Nat.le_of_ble_eq_true rfl | (refine ⟨rfl, rfl, ?_⟩; simp [isFar, ofV0, CV.up, SV.renL, SV.ren] <;> fail) | (refine ⟨rfl, Nat.le_of_ble_eq_true rfl, ?_⟩; simp [isFar, ofV0, CV.up, SV.renL, SV.ren] <;> fail) | (simp <;> fail))); conv => whnf)))
      refine CallVC.of [0, 1] fail_k ⟨.inl rfl, ?_⟩
      (conv => whnf)
      rw [decide_eq_false (by omega)] at h
      exact ⟨_, _, WeakV.of (Weak.fresh 1 0 2 rfl rfl rfl), h⟩
    · (conv => whnf)
      (repeat (first | (refine Both.lit_true ?_; conv => whnf) | (refine Both.lit_false ?_; conv => whnf) | (refine Need.mk ?_ ?_; (focus (first | omega | exact ⟨by omega, by omega⟩ | rfl | exact ⟨rfl, rfl⟩ | exact ⟨rfl, Nat.le_of_ble_eq_true rfl⟩ | exact Nat.le_of_ble_eq_true rfl | (refine ⟨rfl, rfl, ?_⟩; simp [isFar, ofV0, CV.up, SV.renL, SV.ren] <;> fail) | (refine ⟨rfl, Nat.le_of_ble_eq_true rfl, ?_⟩; simp [isFar, ofV0, CV.up, SV.renL, SV.ren] <;> fail) | (simp <;> fail))); conv => whnf)))
      refine Both.dec (fun h1 => ?_) (fun h1 => ?_)
      · (conv => whnf)
        (repeat (first | (refine Both.lit_true ?_; conv => whnf) | (refine Both.lit_false ?_; conv => whnf) | (refine Need.mk ?_ ?_; (focus (first | omega | exact ⟨by omega, by omega⟩ | rfl | exact ⟨rfl, rfl⟩ | exact ⟨rfl, Nat.le_of_ble_eq_true rfl⟩ | exact Nat.le_of_ble_eq_true rfl | (refine ⟨rfl, rfl, ?_⟩; simp [isFar, ofV0, CV.up, SV.renL, SV.ren] <;> fail) | (refine ⟨rfl, Nat.le_of_ble_eq_true rfl, ?_⟩; simp [isFar, ofV0, CV.up, SV.renL, SV.ren] <;> fail) | (simp <;> fail))); conv => whnf)))
        refine CallVC.of [0, 1] fail_k ⟨.inl rfl, ?_⟩
        (conv => whnf)
        rw [decide_eq_false (by omega)] at h
        exact ⟨_, _, WeakV.of (Weak.fresh 1 0 2 rfl rfl rfl), h⟩
      · (conv => whnf)
        (repeat (first | (refine Both.lit_true ?_; conv => whnf) | (refine Both.lit_false ?_; conv => whnf) | (refine Need.mk ?_ ?_; (focus (first | omega | exact ⟨by omega, by omega⟩ | rfl | exact ⟨rfl, rfl⟩ | exact ⟨rfl, Nat.le_of_ble_eq_true rfl⟩ | exact Nat.le_of_ble_eq_true rfl | (refine ⟨rfl, rfl, ?_⟩; simp [isFar, ofV0, CV.up, SV.renL, SV.ren] <;> fail) | (refine ⟨rfl, Nat.le_of_ble_eq_true rfl, ?_⟩; simp [isFar, ofV0, CV.up, SV.renL, SV.ren] <;> fail) | (simp <;> fail))); conv => whnf)))
        obtain ⟨v, rfl⟩ : ∃ v : Nat, n = v := ⟨n.toNat, by omega⟩
        rw [wrap_u64 (by omega) (by omega)]
        refine CallVC.of [0, 1] put_k ⟨l, v, 1, rfl, rfl, by omega, rfl, by omega, rfl, by omega, by omega, ?_⟩
        (conv => whnf)
        rw [decide_eq_true (by omega)] at h
        refine ⟨_, _, WeakV.to [0, 1, 2] rfl rfl rfl rfl ?_, h⟩
        (repeat' ((conv => whnf); first | exact True.intro | (refine And.intro ?_ ?_)))
        all_goals first | rfl | exact .eq rfl | exact .pt ⟨rfl, ⟨rfl, rfl⟩, rfl, trivial⟩ | (rw [show beb v 1 = [UInt8.ofNat ((v : Int)).toNat] by simp [beb]]; rfl)
theorem byte_k : Contract Tryd.prog [] 22 byteS := ⟨⟨⟨_, rfl, rfl, rfl⟩⟩, byte_c⟩

def textS : Spec := fun args H Q => match args with
  | [.ptr 0 0, .str s] => wrS 10000000 args (decide (s.length ≤ 65535)) (beb s.length 2 ++ s) H Q
  | _ => False
theorem text_c : Meets Tryd.prog [] 24 textS := by
  refine meets_of Γok Tryd.func24 rfl ?_
  intro args H Q h
  unfold textS at h
  split at h
  case h_2 => exact h.elim
  unfold wrS at h
  split at h
  case h_2 => exact h.elim
  rename_i s _ e m xs
  obtain ⟨l, rfl, rfl, hl, h⟩ := h
  all_goals
    (refine sx_sound Γok _ ?_; conv => whnf)
    refine Both.dec (fun h0 => ?_) (fun h0 => ?_)
    · (conv => whnf)
      (repeat (first | (refine Both.lit_true ?_; conv => whnf) | (refine Both.lit_false ?_; conv => whnf) | (refine Need.mk ?_ ?_; (focus (first | omega | exact ⟨by omega, by omega⟩ | rfl | exact ⟨rfl, rfl⟩ | exact ⟨rfl, Nat.le_of_ble_eq_true rfl⟩ | exact Nat.le_of_ble_eq_true rfl | (refine ⟨rfl, rfl, ?_⟩; simp [isFar, ofV0, CV.up, SV.renL, SV.ren] <;> fail) | (refine ⟨rfl, Nat.le_of_ble_eq_true rfl, ?_⟩; simp [isFar, ofV0, CV.up, SV.renL, SV.ren] <;> fail) | (simp <;> fail))); conv => whnf)))
      refine CallVC.of [0, 1] fail_k ⟨.inl rfl, ?_⟩
      (conv => whnf)
      rw [decide_eq_false (by omega)] at h
      exact ⟨_, _, WeakV.of (Weak.fresh 1 0 2 rfl rfl rfl), h⟩
    · (conv => whnf)
      (repeat (first | (refine Both.lit_true ?_; conv => whnf) | (refine Both.lit_false ?_; conv => whnf) | (refine Need.mk ?_ ?_; (focus (first | omega | exact ⟨by omega, by omega⟩ | rfl | exact ⟨rfl, rfl⟩ | exact ⟨rfl, Nat.le_of_ble_eq_true rfl⟩ | exact Nat.le_of_ble_eq_true rfl | (refine ⟨rfl, rfl, ?_⟩; simp [isFar, ofV0, CV.up, SV.renL, SV.ren] <;> fail) | (refine ⟨rfl, Nat.le_of_ble_eq_true rfl, ?_⟩; simp [isFar, ofV0, CV.up, SV.renL, SV.ren] <;> fail) | (simp <;> fail))); conv => whnf)))
      rw [wrap_u64 (by omega) (by omega)]
      refine CallVC.of [0, 1] put_k ⟨l, s.length, 2, rfl, rfl, by omega, rfl, by omega, rfl, by omega, by omega, ?_⟩
      (conv => whnf)
      refine CallVC.of [0, 2] raw_k ⟨by omega, l ++ beb s.length 2, rfl, rfl, by rw [List.length_append, beb_length]; omega, ?_⟩
      (conv => whnf)
      rw [decide_eq_true (by omega)] at h
      refine ⟨_, _, WeakV.to [0, 1, 3] rfl rfl rfl rfl ?_, h⟩
      (repeat' ((conv => whnf); first | exact True.intro | (refine And.intro ?_ ?_)))
      all_goals first | rfl | exact .eq rfl | exact .pt ⟨rfl, ⟨rfl, rfl⟩, rfl, trivial⟩ | (rw [← List.append_assoc]; rfl)
theorem text_k : Contract Tryd.prog [] 24 textS := ⟨⟨⟨_, rfl, rfl, rfl⟩⟩, text_c⟩
def bytesS : Spec := fun args H Q => match args, H with
  | [.ptr 0 0], [.cells [.int .i64 e, .opt 0 1, .own 1] 34, .own 5 1 m xs true] => ∃ l : List UInt8, xs = bys l ∧ m = l.length ∧ l.length < 1000000000 ∧
    Q (.tuple [.str (if e = 0 then l else []), .int .i64 e]) [.cells [.int .i64 e, .opt 0 1, .own 1] 34, .gone]
  | _, _ => False
theorem bytes_c : Meets Tryd.prog [] 7 bytesS := by
  refine meets_of Γok Tryd.func7 rfl ?_
  intro args H Q h
  unfold bytesS at h
  split at h
  case h_2 => exact h.elim
  rename_i e m xs
  obtain ⟨l, rfl, rfl, hl, h⟩ := h
  all_goals
    (refine sx_sound Γok _ ?_; conv => whnf)
    refine CallVC.of [0, 1] err_k ⟨.inl rfl, ?_⟩
    (conv => whnf)
    refine Both.dec_not (fun h0 => ?_) (fun h0 => ?_)
    · (conv => whnf)
      rw [if_neg h0] at h
      refine ⟨_, _, WeakV.to [0, 1] rfl rfl rfl rfl ?_, h⟩
      (repeat' ((conv => whnf); first | exact True.intro | (refine And.intro ?_ ?_)))
      all_goals first | rfl | exact .eq rfl | exact .pt ⟨rfl, ⟨rfl, rfl⟩, rfl, trivial⟩
    · (conv => whnf)
      subst h0
      (repeat (first | (refine Both.lit_true ?_; conv => whnf) | (refine Both.lit_false ?_; conv => whnf) | (refine Need.mk ?_ ?_; (focus (first | omega | exact ⟨by omega, by omega⟩ | rfl | exact ⟨rfl, rfl⟩ | exact ⟨rfl, Nat.le_of_ble_eq_true rfl⟩ | exact Nat.le_of_ble_eq_true rfl | (refine ⟨rfl, rfl, ?_⟩; simp [isFar, ofV0, CV.up, SV.renL, SV.ren] <;> fail) | (refine ⟨rfl, Nat.le_of_ble_eq_true rfl, ?_⟩; simp [isFar, ofV0, CV.up, SV.renL, SV.ren] <;> fail) | (simp <;> fail))); conv => whnf)))
      refine CallVC.of [0, 1] str_k ⟨_, rfl, rfl, by omega, ?_⟩
      (conv => whnf)
      refine ⟨_, _, WeakV.to [0, 1] rfl rfl rfl rfl ?_, h⟩
      (repeat' ((conv => whnf); first | exact True.intro | (refine And.intro ?_ ?_)))
      all_goals first | rfl | exact .eq rfl | exact .pt ⟨rfl, ⟨rfl, rfl⟩, rfl, trivial⟩
theorem bytes_k : Contract Tryd.prog [] 7 bytesS := ⟨⟨⟨_, rfl, rfl, rfl⟩⟩, bytes_c⟩
end Go.LX
end
section
set_option maxRecDepth 100000
set_option maxHeartbeats 4000000
set_option autoImplicit false
set_option linter.unusedVariables false
set_option linter.unusedSimpArgs false
namespace Go.LX
open Go.Proofs

/-! ## A reader -/
def rd (e : Int) (s : List UInt8) : List LObj := [.cells [.int .i64 e, .str s] 67]
/-- Whether so many bytes are read. -/
def rdOk (e n : Int) (s : List UInt8) : Bool := decide (e = 0 ∧ 0 ≤ n ∧ n ≤ s.length)
def rdE (e n : Int) (s : List UInt8) : Int := if e = 0 then (if 0 ≤ n ∧ n ≤ s.length then 0 else 6) else e
def rdT (e n : Int) (s : List UInt8) : List UInt8 := if rdOk e n s then s.take n.toNat else []
def rdS (e n : Int) (s : List UInt8) : List UInt8 := if rdOk e n s then s.drop n.toNat else s
def rrawS : Spec := fun args H Q => match args, H with
  | [.ptr 0 0, .int .i64 n], [.cells [.int .i64 e, .str s] 67] => s.length < 1000000 ∧ Q (.str (rdT e n s)) (rd (rdE e n s) (rdS e n s))
  | _, _ => False
theorem rraw_c : Meets Tryd.prog [] 10 rrawS := by
  refine meets_of Γok Tryd.func10 rfl ?_
  intro args H Q h
  unfold rrawS at h
  split at h
  case h_2 => exact h.elim
  rename_i n e s
  obtain ⟨hs, h⟩ := h
  have bad : ∀ h0 : ¬ (0 ≤ n ∧ n ≤ s.length), rdT e n s = [] ∧ rdS e n s = s ∧ rdE e n s = (if e = 0 then 6 else e) := by
    intro h0
    have : rdOk e n s = false := decide_eq_false (by omega)
    simp [rdT, rdS, rdE, this, h0]
  (refine sx_sound Γok _ ?_; conv => whnf)
  refine Both.dec (fun h0 => ?_) (fun h0 => ?_)
  · (conv => whnf)
    (repeat (first | (refine Both.lit_true ?_; conv => whnf) | (refine Both.lit_false ?_; conv => whnf) | (refine Need.mk ?_ ?_; (focus (first | omega | exact ⟨by omega, by omega⟩ | rfl | exact ⟨rfl, rfl⟩ | exact ⟨rfl, Nat.le_of_ble_eq_true rfl⟩ | exact Nat.le_of_ble_eq_true rfl | (refine ⟨rfl, rfl, ?_⟩; simp [isFar, ofV0, CV.up, SV.renL, SV.ren] <;> fail) | (refine ⟨rfl, Nat.le_of_ble_eq_true rfl, ?_⟩; simp [isFar, ofV0, CV.up, SV.renL, SV.ren] <;> fail) | (simp <;> fail))); conv => whnf)))
    refine CallVC.of [0] fail_k ⟨.inr rfl, ?_⟩
    (conv => whnf)
    refine CallVC.of [0] err_k ⟨.inr rfl, ?_⟩
    (conv => whnf)
    refine Both.of_true (by rw [Bool.not_eq_true', decide_eq_false_iff_not]; split <;> omega) ?_
    (conv => whnf)
    obtain ⟨b1, b2, b3⟩ := bad (by omega)
    rw [b1, b2, b3] at h
    exact ⟨_, _, WeakV.refl _ _ _ _, h⟩
  · (conv => whnf)
    (repeat (first | (refine Both.lit_true ?_; conv => whnf) | (refine Both.lit_false ?_; conv => whnf) | (refine Need.mk ?_ ?_; (focus (first | omega | exact ⟨by omega, by omega⟩ | rfl | exact ⟨rfl, rfl⟩ | exact ⟨rfl, Nat.le_of_ble_eq_true rfl⟩ | exact Nat.le_of_ble_eq_true rfl | (refine ⟨rfl, rfl, ?_⟩; simp [isFar, ofV0, CV.up, SV.renL, SV.ren] <;> fail) | (refine ⟨rfl, Nat.le_of_ble_eq_true rfl, ?_⟩; simp [isFar, ofV0, CV.up, SV.renL, SV.ren] <;> fail) | (simp <;> fail))); conv => whnf)))
    (refine ⟨_, rfl, ?_⟩; conv => whnf)
    (repeat (first | (refine Both.lit_true ?_; conv => whnf) | (refine Both.lit_false ?_; conv => whnf) | (refine Need.mk ?_ ?_; (focus (first | omega | exact ⟨by omega, by omega⟩ | rfl | exact ⟨rfl, rfl⟩ | exact ⟨rfl, Nat.le_of_ble_eq_true rfl⟩ | exact Nat.le_of_ble_eq_true rfl | (refine ⟨rfl, rfl, ?_⟩; simp [isFar, ofV0, CV.up, SV.renL, SV.ren] <;> fail) | (refine ⟨rfl, Nat.le_of_ble_eq_true rfl, ?_⟩; simp [isFar, ofV0, CV.up, SV.renL, SV.ren] <;> fail) | (simp <;> fail))); conv => whnf)))
    refine Both.dec (fun h1 => ?_) (fun h1 => ?_)
    · (conv => whnf)
      (repeat (first | (refine Both.lit_true ?_; conv => whnf) | (refine Both.lit_false ?_; conv => whnf) | (refine Need.mk ?_ ?_; (focus (first | omega | exact ⟨by omega, by omega⟩ | rfl | exact ⟨rfl, rfl⟩ | exact ⟨rfl, Nat.le_of_ble_eq_true rfl⟩ | exact Nat.le_of_ble_eq_true rfl | (refine ⟨rfl, rfl, ?_⟩; simp [isFar, ofV0, CV.up, SV.renL, SV.ren] <;> fail) | (refine ⟨rfl, Nat.le_of_ble_eq_true rfl, ?_⟩; simp [isFar, ofV0, CV.up, SV.renL, SV.ren] <;> fail) | (simp <;> fail))); conv => whnf)))
      refine CallVC.of [0] fail_k ⟨.inr rfl, ?_⟩
      (conv => whnf)
      refine CallVC.of [0] err_k ⟨.inr rfl, ?_⟩
      (conv => whnf)
      refine Both.of_true (by rw [Bool.not_eq_true', decide_eq_false_iff_not]; split <;> omega) ?_
      (conv => whnf)
      obtain ⟨b1, b2, b3⟩ := bad (by omega)
      rw [b1, b2, b3] at h
      exact ⟨_, _, WeakV.refl _ _ _ _, h⟩
    · (conv => whnf)
      (repeat (first | (refine Both.lit_true ?_; conv => whnf) | (refine Both.lit_false ?_; conv => whnf) | (refine Need.mk ?_ ?_; (focus (first | omega | exact ⟨by omega, by omega⟩ | rfl | exact ⟨rfl, rfl⟩ | exact ⟨rfl, Nat.le_of_ble_eq_true rfl⟩ | exact Nat.le_of_ble_eq_true rfl | (refine ⟨rfl, rfl, ?_⟩; simp [isFar, ofV0, CV.up, SV.renL, SV.ren] <;> fail) | (refine ⟨rfl, Nat.le_of_ble_eq_true rfl, ?_⟩; simp [isFar, ofV0, CV.up, SV.renL, SV.ren] <;> fail) | (simp <;> fail))); conv => whnf)))
      refine CallVC.of [0] err_k ⟨.inr rfl, ?_⟩
      (conv => whnf)
      refine Both.dec_not (fun he => ?_) (fun he => ?_)
      · (conv => whnf)
        rw [show rdT e n s = [] by simp [rdT, rdOk, he], show rdS e n s = s by simp [rdS, rdOk, he], show rdE e n s = e by simp [rdE, he]] at h
        exact ⟨_, _, WeakV.refl _ _ _ _, h⟩
      · (conv => whnf)
        subst he
        have hok : rdOk 0 n s = true := decide_eq_true ⟨rfl, by omega, by omega⟩
        (repeat (first | (refine Both.lit_true ?_; conv => whnf) | (refine Both.lit_false ?_; conv => whnf) | (refine Need.mk ?_ ?_; (focus (first | omega | exact ⟨by omega, by omega⟩ | rfl | exact ⟨rfl, rfl⟩ | exact ⟨rfl, Nat.le_of_ble_eq_true rfl⟩ | exact Nat.le_of_ble_eq_true rfl | (refine ⟨rfl, rfl, ?_⟩; simp [isFar, ofV0, CV.up, SV.renL, SV.ren] <;> fail) | (refine ⟨rfl, Nat.le_of_ble_eq_true rfl, ?_⟩; simp [isFar, ofV0, CV.up, SV.renL, SV.ren] <;> fail) | (simp <;> fail))); conv => whnf)))
        (refine ⟨_, rfl, ?_⟩; conv => whnf)
        refine Need.mk ⟨by omega, by omega, by omega⟩ ?_
        (conv => whnf)
        (repeat (first | (refine Both.lit_true ?_; conv => whnf) | (refine Both.lit_false ?_; conv => whnf) | (refine Need.mk ?_ ?_; (focus (first | omega | exact ⟨by omega, by omega⟩ | rfl | exact ⟨rfl, rfl⟩ | exact ⟨rfl, Nat.le_of_ble_eq_true rfl⟩ | exact Nat.le_of_ble_eq_true rfl | (refine ⟨rfl, rfl, ?_⟩; simp [isFar, ofV0, CV.up, SV.renL, SV.ren] <;> fail) | (refine ⟨rfl, Nat.le_of_ble_eq_true rfl, ?_⟩; simp [isFar, ofV0, CV.up, SV.renL, SV.ren] <;> fail) | (simp <;> fail))); conv => whnf)))
        (refine ⟨_, rfl, ?_⟩; conv => whnf)
        refine Need.mk ⟨by omega, by omega, by omega⟩ ?_
        (conv => whnf)
        (repeat (first | (refine Both.lit_true ?_; conv => whnf) | (refine Both.lit_false ?_; conv => whnf) | (refine Need.mk ?_ ?_; (focus (first | omega | exact ⟨by omega, by omega⟩ | rfl | exact ⟨rfl, rfl⟩ | exact ⟨rfl, Nat.le_of_ble_eq_true rfl⟩ | exact Nat.le_of_ble_eq_true rfl | (refine ⟨rfl, rfl, ?_⟩; simp [isFar, ofV0, CV.up, SV.renL, SV.ren] <;> fail) | (refine ⟨rfl, Nat.le_of_ble_eq_true rfl, ?_⟩; simp [isFar, ofV0, CV.up, SV.renL, SV.ren] <;> fail) | (simp <;> fail))); conv => whnf)))
        rw [show rdT 0 n s = s.take n.toNat by simp [rdT, hok], show rdS 0 n s = s.drop n.toNat by simp [rdS, hok], show rdE 0 n s = 0 by simp [rdE]; omega] at h
        refine ⟨_, _, WeakV.to [0] rfl rfl rfl ?_ ?_, h⟩
        · exact congrArg SV.str rfl
        · (repeat' ((conv => whnf); first | exact True.intro | (refine And.intro ?_ ?_)))
          all_goals first | rfl | exact .eq rfl | (refine .eq ?_; rw [show List.drop n.toNat s = List.drop n.toNat (List.take (s.length : Int).toNat s) by rw [Int.toNat_natCast, List.take_length]]; rfl)
theorem rraw_k : Contract Tryd.prog [] 10 rrawS := ⟨⟨⟨_, rfl, rfl, rfl⟩⟩, rraw_c⟩

def rdLeft (e : Int) (s : List UInt8) : Int := if e = 0 then s.length else 0
def rdEnd (e : Int) (s : List UInt8) : Int := if 0 < rdLeft e s then 7 else e
def leftS : Spec := fun args H Q => match args, H with
  | [.ptr 0 0], [.cells [.int .i64 e, .str s] 67] => Q (.int .i64 (rdLeft e s)) (rd e s)
  | _, _ => False
theorem left_c : Meets Tryd.prog [] 31 leftS := by
  refine meets_of Γok Tryd.func31 rfl ?_
  intro args H Q h
  unfold leftS at h
  split at h
  case h_2 => exact h.elim
  (refine sx_sound Γok _ ?_; conv => whnf)
  refine CallVC.of [0] err_k ⟨.inr rfl, ?_⟩
  (conv => whnf)
  refine Both.dec_not (fun he => ?_) (fun he => ?_)
  · (conv => whnf)
    rw [rdLeft, if_neg he] at h
    exact ⟨_, _, WeakV.refl _ _ _ _, h⟩
  · (conv => whnf)
    (repeat (first | (refine Both.lit_true ?_; conv => whnf) | (refine Both.lit_false ?_; conv => whnf) | (refine Need.mk ?_ ?_; (focus (first | omega | exact ⟨by omega, by omega⟩ | rfl | exact ⟨rfl, rfl⟩ | exact ⟨rfl, Nat.le_of_ble_eq_true rfl⟩ | exact Nat.le_of_ble_eq_true rfl | (refine ⟨rfl, rfl, ?_⟩; simp [isFar, ofV0, CV.up, SV.renL, SV.ren] <;> fail) | (refine ⟨rfl, Nat.le_of_ble_eq_true rfl, ?_⟩; simp [isFar, ofV0, CV.up, SV.renL, SV.ren] <;> fail) | (simp <;> fail))); conv => whnf)))
    (refine ⟨_, rfl, ?_⟩; conv => whnf)
    rw [rdLeft, if_pos he] at h
    exact ⟨_, _, WeakV.refl _ _ _ _, h⟩
theorem left_k : Contract Tryd.prog [] 31 leftS := ⟨⟨⟨_, rfl, rfl, rfl⟩⟩, left_c⟩
def endS : Spec := fun args H Q => match args, H with
  | [.ptr 0 0], [.cells [.int .i64 e, .str s] 67] => Q (.int .i64 (rdEnd e s)) (rd e s)
  | _, _ => False
theorem end_c : Meets Tryd.prog [] 12 endS := by
  refine meets_of Γok Tryd.func12 rfl ?_
  intro args H Q h
  unfold endS at h
  split at h
  case h_2 => exact h.elim
  (refine sx_sound Γok _ ?_; conv => whnf)
  refine CallVC.of [0] left_k ?_
  (conv => whnf)
  refine Both.dec (fun he => ?_) (fun he => ?_)
  · (conv => whnf)
    rw [rdEnd, if_pos he] at h
    exact ⟨_, _, WeakV.refl _ _ _ _, h⟩
  · (conv => whnf)
    (repeat (first | (refine Both.lit_true ?_; conv => whnf) | (refine Both.lit_false ?_; conv => whnf) | (refine Need.mk ?_ ?_; (focus (first | omega | exact ⟨by omega, by omega⟩ | rfl | exact ⟨rfl, rfl⟩ | exact ⟨rfl, Nat.le_of_ble_eq_true rfl⟩ | exact Nat.le_of_ble_eq_true rfl | (refine ⟨rfl, rfl, ?_⟩; simp [isFar, ofV0, CV.up, SV.renL, SV.ren] <;> fail) | (refine ⟨rfl, Nat.le_of_ble_eq_true rfl, ?_⟩; simp [isFar, ofV0, CV.up, SV.renL, SV.ren] <;> fail) | (simp <;> fail))); conv => whnf)))
    refine CallVC.of [0] err_k ⟨.inr rfl, ?_⟩
    (conv => whnf)
    rw [rdEnd, if_neg he] at h
    exact ⟨_, _, WeakV.refl _ _ _ _, h⟩
theorem end_k : Contract Tryd.prog [] 12 endS := ⟨⟨⟨_, rfl, rfl, rfl⟩⟩, end_c⟩

/-- A number of bytes. -/
def bev (l : List UInt8) : Nat := l.foldl (fun n b => n * 256 + b.toNat) 0
theorem bev_app (l : List UInt8) (b : UInt8) : bev (l ++ [b]) = bev l * 256 + b.toNat := by simp [bev]
theorem bev_from (l : List UInt8) : ∀ (a m : Nat), a < 256 ^ m → l.foldl (fun n b => n * 256 + b.toNat) a < 256 ^ (m + l.length) := by
  induction l with
  | nil => intro a m h; simpa using h
  | cons b l ih =>
    intro a m h
    rw [List.foldl_cons, List.length_cons, show m + (l.length + 1) = (m + 1) + l.length by omega]
    refine ih _ _ ?_
    have := b.toNat_lt
    rw [Nat.pow_succ]
    omega
theorem bev_lt (l : List UInt8) : bev l < 256 ^ l.length := by
  have := bev_from l 0 0 (by simp)
  rw [Nat.zero_add] at this
  exact this
theorem bys_get {l : List UInt8} {i : Nat} (h : i < l.length) : (bys l)[((i : Nat) : Int).toNat]? = some (.int .u8 (l[i].toNat : Int)) := by
  rw [Int.toNat_natCast, bys, List.getElem?_map, List.getElem?_eq_getElem h]
  rfl
theorem bev_take (l : List UInt8) {k : Nat} (h : k < l.length) : bev (l.take (k + 1)) = bev (l.take k) * 256 + l[k].toNat := by
  rw [List.take_succ_eq_append_getElem h, bev_app]
theorem bev_room (l : List UInt8) {k : Nat} (h : k < l.length) (h8 : l.length ≤ 8) : bev (l.take k) * 256 + 256 ≤ 18446744073709551616 := by
  have h1 := bev_lt (l.take k)
  rw [List.length_take, Nat.min_eq_left (by omega)] at h1
  have h2 : 256 ^ k ≤ 256 ^ 7 := Nat.pow_le_pow_right (by omega) (by omega)
  have h3 : (256 : Nat) ^ 7 = 72057594037927936 := by decide
  omega
theorem rdT_len (e n : Int) (s : List UInt8) : (rdT e n s).length ≤ n.toNat := by
  unfold rdT
  split
  · rw [List.length_take]; omega
  · simp
theorem or_go (n : Nat) (b : UInt8) (h : n * 256 + 256 ≤ 18446744073709551616) : bitOr .u64 (shlI .u64 (n : Int) 8) (IntKind.u64.wrap (b.toNat : Int)) = ((n * 256 + b.toNat : Nat) : Int) := by
  have hb := b.toNat_lt
  have h1 : shlI .u64 (n : Int) 8 = ((n * 256 : Nat) : Int) := by
    unfold shlI
    rw [show (2 : Int) ^ min (8 : Int).toNat IntKind.u64.bits = 256 from rfl, wrap_u64 (by omega) (by omega)]
    omega
  rw [h1, wrap_u64 (by omega) (by omega)]
  show IntKind.u64.wrap (((BitVec.ofInt 64 ((n * 256 : Nat) : Int) ||| BitVec.ofInt 64 ((b.toNat : Nat) : Int)).toNat : Nat) : Int) = _
  rw [BitVec.ofInt_natCast, BitVec.ofInt_natCast, BitVec.toNat_or, BitVec.toNat_ofNat, BitVec.toNat_ofNat, Nat.mod_eq_of_lt (by omega), Nat.mod_eq_of_lt (by omega)]
  have h2 : n * 256 ||| b.toNat = n * 256 + b.toNat := by
    have := Nat.shiftLeft_add_eq_or_of_lt (b := b.toNat) (i := 8) (by omega) n
    rw [Nat.shiftLeft_eq] at this
    exact this.symm
  rw [h2, wrap_u64 (by omega) (by omega)]
def getS : Spec := fun args H Q => match args, H with
  | [.ptr 0 0, .int .i64 n], [.cells [.int .i64 e, .str s] 67] => s.length < 1000000 ∧ 0 ≤ n ∧ n ≤ 8 ∧ Q (.int .u64 (bev (rdT e n s) : Int)) (rd (rdE e n s) (rdS e n s))
  | _, _ => False
theorem get_c : Meets Tryd.prog [] 41 getS := by
  refine meets_of Γok Tryd.func41 rfl ?_
  intro args H Q h
  unfold getS at h
  split at h
  case h_2 => exact h.elim
  rename_i n e s
  obtain ⟨hs, hn0, hn8, h⟩ := h
  (refine sx_sound Γok _ ?_; conv => whnf)
  refine CallVC.of [0] rraw_k ⟨hs, ?_⟩
  (conv => whnf)
  have htl := rdT_len e n s
  generalize rdT e n s = t at htl h ⊢
  generalize rdE e n s = e1 at h ⊢
  generalize rdS e n s = s1 at h ⊢
  have htl : t.length ≤ 8 := by omega
  refine loop_rule (fun k : Nat => ⟨[.any, .any, .any, .any, .any, .int .u64 (bev (t.take k) : Int), .any, .any, .any, .any, .any, .own 1, .int .i64 (t.length : Int), .int .i64 (k : Int), .any, .any, .any, .any, .any, .any, .any, .any, .any, .any], rd e1 s1 ++ [.own 5 1 t.length (bys t) true]⟩) (fun k => k ≤ t.length) (fun k => t.length - k) 0 (by omega) ?_ ?_
  · refine Weak.le ?_ ?_
    · (repeat' ((conv => whnf); first | exact True.intro | (refine And.intro ?_ ?_)))
      all_goals first | rfl | done
    · (repeat' ((conv => whnf); first | exact True.intro | (refine And.intro ?_ ?_)))
      all_goals first | rfl | exact .eq rfl
  · intro k hk
    (refine sx_sound Γok _ ?_; conv => whnf)
    refine Both.dec (fun hlt => ?_) (fun hge => ?_)
    · (conv => whnf)
      (repeat (first | (refine Both.lit_true ?_; conv => whnf) | (refine Both.lit_false ?_; conv => whnf) | (refine Need.mk ?_ ?_; (focus (first | omega | exact ⟨by omega, by omega⟩ | rfl | exact ⟨rfl, rfl⟩ | exact ⟨rfl, Nat.le_of_ble_eq_true rfl⟩ | exact Nat.le_of_ble_eq_true rfl | (refine ⟨rfl, rfl, ?_⟩; simp [isFar, ofV0, CV.up, SV.renL, SV.ren] <;> fail) | (refine ⟨rfl, Nat.le_of_ble_eq_true rfl, ?_⟩; simp [isFar, ofV0, CV.up, SV.renL, SV.ren] <;> fail) | (simp <;> fail))); conv => whnf)))
      refine Need.mk ⟨rfl, by omega, by omega⟩ ?_
      (conv => whnf)
      refine ⟨_, bys_get (by omega), ?_⟩
      (conv => whnf)
      (repeat (first | (refine Both.lit_true ?_; conv => whnf) | (refine Both.lit_false ?_; conv => whnf) | (refine Need.mk ?_ ?_; (focus (first | omega | exact ⟨by omega, by omega⟩ | rfl | exact ⟨rfl, rfl⟩ | exact ⟨rfl, Nat.le_of_ble_eq_true rfl⟩ | exact Nat.le_of_ble_eq_true rfl | (refine ⟨rfl, rfl, ?_⟩; simp [isFar, ofV0, CV.up, SV.renL, SV.ren] <;> fail) | (refine ⟨rfl, Nat.le_of_ble_eq_true rfl, ?_⟩; simp [isFar, ofV0, CV.up, SV.renL, SV.ren] <;> fail) | (simp <;> fail))); conv => whnf)))
      have hkt : k < t.length := by omega
      refine ⟨k + 1, by omega, by omega, Weak.le ?_ ?_⟩
      · (repeat' ((conv => whnf); first | exact True.intro | (refine And.intro ?_ ?_)))
        all_goals first | rfl | exact congrArg (SV.int .i64) (by rw [wrap_i64 (by omega) (by omega)]; rfl) | exact congrArg (SV.int .u64) (by rw [or_go _ _ (bev_room t hkt htl), bev_take t hkt])
      · (repeat' ((conv => whnf); first | exact True.intro | (refine And.intro ?_ ?_)))
        all_goals first | rfl | exact .eq rfl
    · obtain rfl : k = t.length := by omega
      (conv => whnf)
      rw [List.take_length]
      refine ⟨_, _, WeakV.to [0] rfl rfl rfl rfl ?_, h⟩
      (repeat' ((conv => whnf); first | exact True.intro | (refine And.intro ?_ ?_)))
      all_goals first | rfl | exact .eq rfl
theorem get_k : Contract Tryd.prog [] 41 getS := ⟨⟨⟨_, rfl, rfl, rfl⟩⟩, get_c⟩

/-! ## A reader's calls -/
theorem rdT_len' (e n : Int) (s : List UInt8) : (rdT e n s).length ≤ s.length := by
  unfold rdT
  split
  · rw [List.length_take]; omega
  · simp
theorem rdS_len (e n : Int) (s : List UInt8) : (rdS e n s).length ≤ s.length := by
  unfold rdS
  split
  · rw [List.length_drop]; omega
  · simp
/-- A number that is read. -/
def rdV (e n : Int) (s : List UInt8) : Nat := bev (rdT e n s)
theorem rdV_lt (e : Int) (n : Nat) (s : List UInt8) : rdV e n s < 256 ^ n := by
  have h1 := bev_lt (rdT e n s)
  have h2 := rdT_len e n s
  exact Nat.lt_of_lt_of_le h1 (Nat.pow_le_pow_right (by omega) (by omega))
theorem rdV_lt1 (e : Int) (s : List UInt8) : rdV e 1 s < 256 := rdV_lt e 1 s
theorem rdV_lt2 (e : Int) (s : List UInt8) : rdV e 2 s < 65536 := rdV_lt e 2 s
theorem rdV_lt8 (e : Int) (s : List UInt8) : rdV e 8 s < 18446744073709551616 := rdV_lt e 8 s
def rnewS : Spec := fun args H Q => match args, H with
  | [.str s], [] => Q (.ptr 0 0) (rd 0 s)
  | _, _ => False
theorem rnew_c : Meets Tryd.prog [] 9 rnewS := by
  refine meets_of Γok Tryd.func9 rfl ?_
  intro args H Q h
  unfold rnewS at h
  split at h
  case h_2 => exact h.elim
  (refine sx_sound Γok _ ?_; conv => whnf)
  (repeat (first | (exact Out.same; conv => whnf) | (exact Out1.same; conv => whnf) | (refine QAnd.mk ?_ ?_; conv => whnf) | (apply QStepH.go; conv => whnf) | (refine Both.lit_true ?_; conv => whnf) | (refine Both.lit_false ?_; conv => whnf) | (apply QStep.go; conv => whnf) | (refine Need.mk ?_ ?_; (focus (first | omega | exact ⟨by omega, by omega⟩ | rfl | exact ⟨rfl, rfl⟩ | exact ⟨rfl, by omega, by omega⟩ | exact ⟨by omega, by omega, by omega⟩ | exact ⟨rfl, Nat.le_of_ble_eq_true rfl⟩ | exact Nat.le_of_ble_eq_true rfl | (refine ⟨rfl, rfl, ?_⟩; simp [isFar, ofV0, CV.up, SV.renL, SV.ren] <;> fail) | (refine ⟨rfl, Nat.le_of_ble_eq_true rfl, ?_⟩; simp [isFar, ofV0, CV.up, SV.renL, SV.ren] <;> fail) | (simp only [List.length_append, List.length_drop, List.length_take, List.length_replicate, List.length_map]; omega) | (simp <;> fail))); conv => whnf) | (refine ⟨_, rfl, ?_⟩; conv => whnf)))
  refine ⟨_, _, WeakV.auto ?_, h⟩
  (repeat' ((conv => whnf); first | exact True.intro | (refine And.intro ?_ ?_)))
  all_goals first | rfl | exact .eq rfl
theorem rnew_k : Contract Tryd.prog [] 9 rnewS := ⟨⟨⟨_, rfl, rfl, rfl⟩⟩, rnew_c⟩
def rbyteS : Spec := fun args H Q => match args, H with
  | [.ptr 0 0], [.cells [.int .i64 e, .str s] 67] => Need (s.length < 1000000) (Q (.int .i64 (rdV e 1 s : Int)) (rd (rdE e 1 s) (rdS e 1 s)))
  | _, _ => False
theorem rbyte_c : Meets Tryd.prog [] 28 rbyteS := by
  refine meets_of Γok Tryd.func28 rfl ?_
  intro args H Q h
  unfold rbyteS at h
  split at h
  case h_2 => exact h.elim
  rename_i e s
  obtain ⟨hs, h⟩ := h
  (refine sx_sound Γok _ ?_; conv => whnf)
  refine CallVC.auto get_k ?_
  refine ⟨hs, by omega, by omega, ?_⟩
  (conv => whnf)
  have hv := rdV_lt1 e s
  refine ⟨_, _, WeakV.auto ?_, h⟩
  (repeat' ((conv => whnf); first | exact True.intro | (refine And.intro ?_ ?_)))
  all_goals first | rfl | exact .eq rfl | exact congrArg (SV.int .i64) (wrap_i64 (n := (rdV e 1 s : Int)) (by omega) (by omega))
theorem rbyte_k : Contract Tryd.prog [] 28 rbyteS := ⟨⟨⟨_, rfl, rfl, rfl⟩⟩, rbyte_c⟩
def rnumS : Spec := fun args H Q => match args, H with
  | [.ptr 0 0], [.cells [.int .i64 e, .str s] 67] => Need (s.length < 1000000) (Q (.int .u64 (rdV e 8 s : Int)) (rd (rdE e 8 s) (rdS e 8 s)))
  | _, _ => False
theorem rnum_c : Meets Tryd.prog [] 29 rnumS := by
  refine meets_of Γok Tryd.func29 rfl ?_
  intro args H Q h
  unfold rnumS at h
  split at h
  case h_2 => exact h.elim
  rename_i e s
  obtain ⟨hs, h⟩ := h
  (refine sx_sound Γok _ ?_; conv => whnf)
  refine CallVC.auto get_k ?_
  refine ⟨hs, by omega, by omega, ?_⟩
  (conv => whnf)
  refine ⟨_, _, WeakV.auto ?_, h⟩
  (repeat' ((conv => whnf); first | exact True.intro | (refine And.intro ?_ ?_)))
  all_goals first | rfl | exact .eq rfl
theorem rnum_k : Contract Tryd.prog [] 29 rnumS := ⟨⟨⟨_, rfl, rfl, rfl⟩⟩, rnum_c⟩
def rtextS : Spec := fun args H Q => match args, H with
  | [.ptr 0 0], [.cells [.int .i64 e, .str s] 67] => Need (s.length < 1000000) (Q (.str (rdT (rdE e 2 s) (rdV e 2 s) (rdS e 2 s))) (rd (rdE (rdE e 2 s) (rdV e 2 s) (rdS e 2 s)) (rdS (rdE e 2 s) (rdV e 2 s) (rdS e 2 s))))
  | _, _ => False
theorem rtext_c : Meets Tryd.prog [] 30 rtextS := by
  refine meets_of Γok Tryd.func30 rfl ?_
  intro args H Q h
  unfold rtextS at h
  split at h
  case h_2 => exact h.elim
  rename_i e s
  obtain ⟨hs, h⟩ := h
  (refine sx_sound Γok _ ?_; conv => whnf)
  refine CallVC.auto get_k ?_
  refine ⟨hs, by omega, by omega, ?_⟩
  (conv => whnf)
  have hv := rdV_lt2 e s
  have hl := rdS_len e 2 s
  rw [show IntKind.i64.wrap (bev (rdT e 2 s) : Int) = (rdV e 2 s : Int) from wrap_i64 (n := (rdV e 2 s : Int)) (by omega) (by omega)]
  refine CallVC.auto rraw_k ?_
  refine ⟨by omega, ?_⟩
  (conv => whnf)
  refine ⟨_, _, WeakV.auto ?_, h⟩
  (repeat' ((conv => whnf); first | exact True.intro | (refine And.intro ?_ ?_)))
  all_goals first | rfl | exact .eq rfl
theorem rtext_k : Contract Tryd.prog [] 30 rtextS := ⟨⟨⟨_, rfl, rfl, rfl⟩⟩, rtext_c⟩
end Go.LX
end
section
set_option maxRecDepth 100000
set_option maxHeartbeats 4000000
set_option autoImplicit false
set_option linter.unusedVariables false
set_option linter.unusedSimpArgs false
namespace Go.LX
open Go.Proofs

/-! ## Calls of a writer, of a reader, as they are met most -/
def wrOk (bd : Nat) (more : List UInt8) (H : List LObj) (Q : SV → List LObj → Prop) : Prop :=
  match H with
  | [.cells [.int .i64 e, .opt 0 1, .own 1] 34, .own 5 1 m xs true] => ∃ l : List UInt8, xs = bys l ∧ m = l.length ∧ l.length < bd ∧ Q (.tuple []) (wrN e (l ++ more))
  | _ => False
def byteOkS : Spec := fun args H Q => match args with
  | [.ptr 0 0, .int .i64 n] => Need (0 ≤ n ∧ n ≤ 255) (wrOk 10000000 [UInt8.ofNat n.toNat] H Q)
  | _ => False
theorem byteOk_k : Contract Tryd.prog [] 22 byteOkS := byte_k.imp fun args H Q h => by
  unfold byteOkS at h
  split at h
  case h_2 => exact h.elim
  obtain ⟨h0, h⟩ := h
  unfold wrOk at h
  split at h
  case h_2 => exact h.elim
  obtain ⟨l, rfl, rfl, hl, h⟩ := h
  refine ⟨l, rfl, rfl, hl, ?_⟩
  rw [decide_eq_true h0]
  exact h
def byteBadS : Spec := fun args H Q => match args, H with
  | [.ptr 0 0, .int .i64 n], [.cells [.int .i64 e, .opt 0 1, .own 1] 34, .own 5 1 m xs true] => Need (¬ (0 ≤ n ∧ n ≤ 255)) (∃ l : List UInt8, xs = bys l ∧ m = l.length ∧ l.length < 10000000 ∧ Q (.tuple []) (wrN (errOf e) l))
  | _, _ => False
theorem byteBad_k : Contract Tryd.prog [] 22 byteBadS := byte_k.imp fun args H Q h => by
  unfold byteBadS at h
  split at h
  case h_2 => exact h.elim
  obtain ⟨h0, l, rfl, rfl, hl, h⟩ := h
  refine ⟨l, rfl, rfl, hl, ?_⟩
  rw [decide_eq_false h0]
  exact h
def numOkS : Spec := fun args H Q => match args with
  | [.ptr 0 0, .int .u64 n] => Need (0 ≤ n ∧ n < 18446744073709551616) (wrOk 10000000 (beb n.toNat 8) H Q)
  | _ => False
theorem numOk_k : Contract Tryd.prog [] 23 numOkS := num_k.imp fun args H Q h => by
  unfold numOkS at h
  split at h
  case h_2 => exact h.elim
  rename_i n
  obtain ⟨h0, h⟩ := h
  unfold wrOk at h
  split at h
  case h_2 => exact h.elim
  obtain ⟨l, rfl, rfl, hl, h⟩ := h
  exact ⟨n.toNat, by omega, by omega, l, rfl, rfl, hl, h⟩
def textOkS : Spec := fun args H Q => match args with
  | [.ptr 0 0, .str s] => Need (s.length ≤ 65535) (wrOk 10000000 (beb s.length 2 ++ s) H Q)
  | _ => False
theorem textOk_k : Contract Tryd.prog [] 24 textOkS := text_k.imp fun args H Q h => by
  unfold textOkS at h
  split at h
  case h_2 => exact h.elim
  obtain ⟨h0, h⟩ := h
  unfold wrOk at h
  split at h
  case h_2 => exact h.elim
  obtain ⟨l, rfl, rfl, hl, h⟩ := h
  refine ⟨l, rfl, rfl, hl, ?_⟩
  rw [decide_eq_true h0]
  exact h
def rawOkS : Spec := fun args H Q => match args with
  | [.ptr 0 0, .str s] => Need (s.length < 10000000) (wrOk 20000000 s H Q)
  | _ => False
theorem rawOk_k : Contract Tryd.prog [] 5 rawOkS := raw_k.imp fun args H Q h => by
  unfold rawOkS at h
  split at h
  case h_2 => exact h.elim
  obtain ⟨h0, h⟩ := h
  unfold wrOk at h
  split at h
  case h_2 => exact h.elim
  obtain ⟨l, rfl, rfl, hl, h⟩ := h
  exact ⟨h0, l, rfl, rfl, hl, h⟩
def failAS : Spec := fun args H Q => match args, H with
  | [.ptr 0 0, .int .i64 n], [.cells [.int .i64 e, .str s] 67] => ∀ e' : Int, e' = (if e = 0 then n else e) → Q (.tuple []) (rd e' s)
  | _, _ => False
theorem failA_k : Contract Tryd.prog [] 27 failAS := fail_k.imp fun args H Q h => by
  unfold failAS at h
  split at h
  case h_2 => exact h.elim
  exact ⟨.inr rfl, h _ rfl⟩
def errAS : Spec := fun args H Q => match args, H with
  | [.ptr 0 0], [.cells [.int .i64 e, .str s] 67] => Q (.int .i64 e) (rd e s)
  | _, _ => False
theorem errA_k : Contract Tryd.prog [] 25 errAS := err_k.imp fun args H Q h => by
  unfold errAS at h
  split at h
  case h_2 => exact h.elim
  exact ⟨.inr rfl, h⟩
end Go.LX
end
section
set_option maxRecDepth 100000
set_option maxHeartbeats 4000000
set_option autoImplicit false
set_option linter.unusedVariables false
set_option linter.unusedSimpArgs false
namespace Go.LX
open Go.Proofs

/-! ## Packets -/
structure Pkt where
  f : Int
  s : BitVec 64
  t : BitVec 64
  d : List UInt8
def Pkt.ok (p : Pkt) : Prop := (-9223372036854775808 ≤ p.f ∧ p.f ≤ 9223372036854775807) ∧ p.d.length ≤ 140737488351232
/-- May a packet be? -/
def pok (f s t : Int) (d : List UInt8) : Bool := decide (0 ≤ f ∧ f ≤ 1 ∧ s ≠ 0 ∧ t ≠ 0 ∧ d.length ≤ 64)
def pbytes (f s t : Int) (d : List UInt8) : List UInt8 := beb f.toNat 1 ++ beb s.toNat 8 ++ beb t.toNat 8 ++ (beb d.length 2 ++ d)
def okE (b : Bool) : Int := if b then 0 else 1
def pcheckS : Spec := fun args H Q => match args, H with
  | [.agg [.int .i64 f, .int .u64 s, .int .u64 t, .str d]], [] => ∀ e : Int, e = okE (pok f s t d) → Q (.int .i64 e) []
  | _, _ => False
theorem pcheck_c : Meets Tryd.prog [] 8 pcheckS := by
  refine meets_of Γok Tryd.func8 rfl ?_
  intro args H Q h
  unfold pcheckS at h
  split at h
  case h_2 => exact h.elim
  rename_i f s t d
  have bad : ¬ (0 ≤ f ∧ f ≤ 1 ∧ s ≠ 0 ∧ t ≠ 0 ∧ d.length ≤ 64) → Q (.int .i64 1) [] := by
    intro h0
    exact h 1 (by rw [show pok f s t d = false from decide_eq_false h0]; rfl)
  (refine sx_sound Γok _ ?_; conv => whnf)
  (repeat (first | (exact Out.same; conv => whnf) | (exact Out1.same; conv => whnf) | (refine QAnd.mk ?_ ?_; conv => whnf) | (apply QStepH.go; conv => whnf) | (refine Both.lit_true ?_; conv => whnf) | (refine Both.lit_false ?_; conv => whnf) | (apply QStep.go; conv => whnf) | (refine Need.mk ?_ ?_; (focus (first | omega | exact ⟨by omega, by omega⟩ | rfl | exact ⟨rfl, rfl⟩ | exact ⟨rfl, by omega, by omega⟩ | exact ⟨by omega, by omega, by omega⟩ | exact ⟨rfl, Nat.le_of_ble_eq_true rfl⟩ | exact Nat.le_of_ble_eq_true rfl | (refine ⟨rfl, rfl, ?_⟩; simp [isFar, ofV0, CV.up, SV.renL, SV.ren] <;> fail) | (refine ⟨rfl, Nat.le_of_ble_eq_true rfl, ?_⟩; simp [isFar, ofV0, CV.up, SV.renL, SV.ren] <;> fail) | (simp only [List.length_append, List.length_drop, List.length_take, List.length_replicate, List.length_map]; omega) | (simp <;> fail))); conv => whnf) | (refine ⟨_, rfl, ?_⟩; conv => whnf)))
  refine Both.dec (fun h1 => ?_) (fun h1 => ?_)
  · (conv => whnf)
    (repeat (first | (exact Out.same; conv => whnf) | (exact Out1.same; conv => whnf) | (refine QAnd.mk ?_ ?_; conv => whnf) | (apply QStepH.go; conv => whnf) | (refine Both.lit_true ?_; conv => whnf) | (refine Both.lit_false ?_; conv => whnf) | (apply QStep.go; conv => whnf) | (refine Need.mk ?_ ?_; (focus (first | omega | exact ⟨by omega, by omega⟩ | rfl | exact ⟨rfl, rfl⟩ | exact ⟨rfl, by omega, by omega⟩ | exact ⟨by omega, by omega, by omega⟩ | exact ⟨rfl, Nat.le_of_ble_eq_true rfl⟩ | exact Nat.le_of_ble_eq_true rfl | (refine ⟨rfl, rfl, ?_⟩; simp [isFar, ofV0, CV.up, SV.renL, SV.ren] <;> fail) | (refine ⟨rfl, Nat.le_of_ble_eq_true rfl, ?_⟩; simp [isFar, ofV0, CV.up, SV.renL, SV.ren] <;> fail) | (simp only [List.length_append, List.length_drop, List.length_take, List.length_replicate, List.length_map]; omega) | (simp <;> fail))); conv => whnf) | (refine ⟨_, rfl, ?_⟩; conv => whnf)))
    exact ⟨_, _, WeakV.drop rfl, bad (by omega)⟩
  (conv => whnf)
  (repeat (first | (exact Out.same; conv => whnf) | (exact Out1.same; conv => whnf) | (refine QAnd.mk ?_ ?_; conv => whnf) | (apply QStepH.go; conv => whnf) | (refine Both.lit_true ?_; conv => whnf) | (refine Both.lit_false ?_; conv => whnf) | (apply QStep.go; conv => whnf) | (refine Need.mk ?_ ?_; (focus (first | omega | exact ⟨by omega, by omega⟩ | rfl | exact ⟨rfl, rfl⟩ | exact ⟨rfl, by omega, by omega⟩ | exact ⟨by omega, by omega, by omega⟩ | exact ⟨rfl, Nat.le_of_ble_eq_true rfl⟩ | exact Nat.le_of_ble_eq_true rfl | (refine ⟨rfl, rfl, ?_⟩; simp [isFar, ofV0, CV.up, SV.renL, SV.ren] <;> fail) | (refine ⟨rfl, Nat.le_of_ble_eq_true rfl, ?_⟩; simp [isFar, ofV0, CV.up, SV.renL, SV.ren] <;> fail) | (simp only [List.length_append, List.length_drop, List.length_take, List.length_replicate, List.length_map]; omega) | (simp <;> fail))); conv => whnf) | (refine ⟨_, rfl, ?_⟩; conv => whnf)))
  refine Both.dec (fun h2 => ?_) (fun h2 => ?_)
  · (conv => whnf)
    (repeat (first | (exact Out.same; conv => whnf) | (exact Out1.same; conv => whnf) | (refine QAnd.mk ?_ ?_; conv => whnf) | (apply QStepH.go; conv => whnf) | (refine Both.lit_true ?_; conv => whnf) | (refine Both.lit_false ?_; conv => whnf) | (apply QStep.go; conv => whnf) | (refine Need.mk ?_ ?_; (focus (first | omega | exact ⟨by omega, by omega⟩ | rfl | exact ⟨rfl, rfl⟩ | exact ⟨rfl, by omega, by omega⟩ | exact ⟨by omega, by omega, by omega⟩ | exact ⟨rfl, Nat.le_of_ble_eq_true rfl⟩ | exact Nat.le_of_ble_eq_true rfl | (refine ⟨rfl, rfl, ?_⟩; simp [isFar, ofV0, CV.up, SV.renL, SV.ren] <;> fail) | (refine ⟨rfl, Nat.le_of_ble_eq_true rfl, ?_⟩; simp [isFar, ofV0, CV.up, SV.renL, SV.ren] <;> fail) | (simp only [List.length_append, List.length_drop, List.length_take, List.length_replicate, List.length_map]; omega) | (simp <;> fail))); conv => whnf) | (refine ⟨_, rfl, ?_⟩; conv => whnf)))
    exact ⟨_, _, WeakV.drop rfl, bad (by omega)⟩
  (conv => whnf)
  (repeat (first | (exact Out.same; conv => whnf) | (exact Out1.same; conv => whnf) | (refine QAnd.mk ?_ ?_; conv => whnf) | (apply QStepH.go; conv => whnf) | (refine Both.lit_true ?_; conv => whnf) | (refine Both.lit_false ?_; conv => whnf) | (apply QStep.go; conv => whnf) | (refine Need.mk ?_ ?_; (focus (first | omega | exact ⟨by omega, by omega⟩ | rfl | exact ⟨rfl, rfl⟩ | exact ⟨rfl, by omega, by omega⟩ | exact ⟨by omega, by omega, by omega⟩ | exact ⟨rfl, Nat.le_of_ble_eq_true rfl⟩ | exact Nat.le_of_ble_eq_true rfl | (refine ⟨rfl, rfl, ?_⟩; simp [isFar, ofV0, CV.up, SV.renL, SV.ren] <;> fail) | (refine ⟨rfl, Nat.le_of_ble_eq_true rfl, ?_⟩; simp [isFar, ofV0, CV.up, SV.renL, SV.ren] <;> fail) | (simp only [List.length_append, List.length_drop, List.length_take, List.length_replicate, List.length_map]; omega) | (simp <;> fail))); conv => whnf) | (refine ⟨_, rfl, ?_⟩; conv => whnf)))
  refine Both.dec (fun h3 => ?_) (fun h3 => ?_)
  · (conv => whnf)
    (repeat (first | (exact Out.same; conv => whnf) | (exact Out1.same; conv => whnf) | (refine QAnd.mk ?_ ?_; conv => whnf) | (apply QStepH.go; conv => whnf) | (refine Both.lit_true ?_; conv => whnf) | (refine Both.lit_false ?_; conv => whnf) | (apply QStep.go; conv => whnf) | (refine Need.mk ?_ ?_; (focus (first | omega | exact ⟨by omega, by omega⟩ | rfl | exact ⟨rfl, rfl⟩ | exact ⟨rfl, by omega, by omega⟩ | exact ⟨by omega, by omega, by omega⟩ | exact ⟨rfl, Nat.le_of_ble_eq_true rfl⟩ | exact Nat.le_of_ble_eq_true rfl | (refine ⟨rfl, rfl, ?_⟩; simp [isFar, ofV0, CV.up, SV.renL, SV.ren] <;> fail) | (refine ⟨rfl, Nat.le_of_ble_eq_true rfl, ?_⟩; simp [isFar, ofV0, CV.up, SV.renL, SV.ren] <;> fail) | (simp only [List.length_append, List.length_drop, List.length_take, List.length_replicate, List.length_map]; omega) | (simp <;> fail))); conv => whnf) | (refine ⟨_, rfl, ?_⟩; conv => whnf)))
    exact ⟨_, _, WeakV.drop rfl, bad (by omega)⟩
  (conv => whnf)
  (repeat (first | (exact Out.same; conv => whnf) | (exact Out1.same; conv => whnf) | (refine QAnd.mk ?_ ?_; conv => whnf) | (apply QStepH.go; conv => whnf) | (refine Both.lit_true ?_; conv => whnf) | (refine Both.lit_false ?_; conv => whnf) | (apply QStep.go; conv => whnf) | (refine Need.mk ?_ ?_; (focus (first | omega | exact ⟨by omega, by omega⟩ | rfl | exact ⟨rfl, rfl⟩ | exact ⟨rfl, by omega, by omega⟩ | exact ⟨by omega, by omega, by omega⟩ | exact ⟨rfl, Nat.le_of_ble_eq_true rfl⟩ | exact Nat.le_of_ble_eq_true rfl | (refine ⟨rfl, rfl, ?_⟩; simp [isFar, ofV0, CV.up, SV.renL, SV.ren] <;> fail) | (refine ⟨rfl, Nat.le_of_ble_eq_true rfl, ?_⟩; simp [isFar, ofV0, CV.up, SV.renL, SV.ren] <;> fail) | (simp only [List.length_append, List.length_drop, List.length_take, List.length_replicate, List.length_map]; omega) | (simp <;> fail))); conv => whnf) | (refine ⟨_, rfl, ?_⟩; conv => whnf)))
  refine Both.dec (fun h4 => ?_) (fun h4 => ?_)
  · (conv => whnf)
    (repeat (first | (exact Out.same; conv => whnf) | (exact Out1.same; conv => whnf) | (refine QAnd.mk ?_ ?_; conv => whnf) | (apply QStepH.go; conv => whnf) | (refine Both.lit_true ?_; conv => whnf) | (refine Both.lit_false ?_; conv => whnf) | (apply QStep.go; conv => whnf) | (refine Need.mk ?_ ?_; (focus (first | omega | exact ⟨by omega, by omega⟩ | rfl | exact ⟨rfl, rfl⟩ | exact ⟨rfl, by omega, by omega⟩ | exact ⟨by omega, by omega, by omega⟩ | exact ⟨rfl, Nat.le_of_ble_eq_true rfl⟩ | exact Nat.le_of_ble_eq_true rfl | (refine ⟨rfl, rfl, ?_⟩; simp [isFar, ofV0, CV.up, SV.renL, SV.ren] <;> fail) | (refine ⟨rfl, Nat.le_of_ble_eq_true rfl, ?_⟩; simp [isFar, ofV0, CV.up, SV.renL, SV.ren] <;> fail) | (simp only [List.length_append, List.length_drop, List.length_take, List.length_replicate, List.length_map]; omega) | (simp <;> fail))); conv => whnf) | (refine ⟨_, rfl, ?_⟩; conv => whnf)))
    exact ⟨_, _, WeakV.drop rfl, bad (by omega)⟩
  (conv => whnf)
  (repeat (first | (exact Out.same; conv => whnf) | (exact Out1.same; conv => whnf) | (refine QAnd.mk ?_ ?_; conv => whnf) | (apply QStepH.go; conv => whnf) | (refine Both.lit_true ?_; conv => whnf) | (refine Both.lit_false ?_; conv => whnf) | (apply QStep.go; conv => whnf) | (refine Need.mk ?_ ?_; (focus (first | omega | exact ⟨by omega, by omega⟩ | rfl | exact ⟨rfl, rfl⟩ | exact ⟨rfl, by omega, by omega⟩ | exact ⟨by omega, by omega, by omega⟩ | exact ⟨rfl, Nat.le_of_ble_eq_true rfl⟩ | exact Nat.le_of_ble_eq_true rfl | (refine ⟨rfl, rfl, ?_⟩; simp [isFar, ofV0, CV.up, SV.renL, SV.ren] <;> fail) | (refine ⟨rfl, Nat.le_of_ble_eq_true rfl, ?_⟩; simp [isFar, ofV0, CV.up, SV.renL, SV.ren] <;> fail) | (simp only [List.length_append, List.length_drop, List.length_take, List.length_replicate, List.length_map]; omega) | (simp <;> fail))); conv => whnf) | (refine ⟨_, rfl, ?_⟩; conv => whnf)))
  refine Both.dec (fun h5 => ?_) (fun h5 => ?_)
  · (conv => whnf)
    (repeat (first | (exact Out.same; conv => whnf) | (exact Out1.same; conv => whnf) | (refine QAnd.mk ?_ ?_; conv => whnf) | (apply QStepH.go; conv => whnf) | (refine Both.lit_true ?_; conv => whnf) | (refine Both.lit_false ?_; conv => whnf) | (apply QStep.go; conv => whnf) | (refine Need.mk ?_ ?_; (focus (first | omega | exact ⟨by omega, by omega⟩ | rfl | exact ⟨rfl, rfl⟩ | exact ⟨rfl, by omega, by omega⟩ | exact ⟨by omega, by omega, by omega⟩ | exact ⟨rfl, Nat.le_of_ble_eq_true rfl⟩ | exact Nat.le_of_ble_eq_true rfl | (refine ⟨rfl, rfl, ?_⟩; simp [isFar, ofV0, CV.up, SV.renL, SV.ren] <;> fail) | (refine ⟨rfl, Nat.le_of_ble_eq_true rfl, ?_⟩; simp [isFar, ofV0, CV.up, SV.renL, SV.ren] <;> fail) | (simp only [List.length_append, List.length_drop, List.length_take, List.length_replicate, List.length_map]; omega) | (simp <;> fail))); conv => whnf) | (refine ⟨_, rfl, ?_⟩; conv => whnf)))
    exact ⟨_, _, WeakV.drop rfl, bad (by omega)⟩
  (conv => whnf)
  (repeat (first | (exact Out.same; conv => whnf) | (exact Out1.same; conv => whnf) | (refine QAnd.mk ?_ ?_; conv => whnf) | (apply QStepH.go; conv => whnf) | (refine Both.lit_true ?_; conv => whnf) | (refine Both.lit_false ?_; conv => whnf) | (apply QStep.go; conv => whnf) | (refine Need.mk ?_ ?_; (focus (first | omega | exact ⟨by omega, by omega⟩ | rfl | exact ⟨rfl, rfl⟩ | exact ⟨rfl, by omega, by omega⟩ | exact ⟨by omega, by omega, by omega⟩ | exact ⟨rfl, Nat.le_of_ble_eq_true rfl⟩ | exact Nat.le_of_ble_eq_true rfl | (refine ⟨rfl, rfl, ?_⟩; simp [isFar, ofV0, CV.up, SV.renL, SV.ren] <;> fail) | (refine ⟨rfl, Nat.le_of_ble_eq_true rfl, ?_⟩; simp [isFar, ofV0, CV.up, SV.renL, SV.ren] <;> fail) | (simp only [List.length_append, List.length_drop, List.length_take, List.length_replicate, List.length_map]; omega) | (simp <;> fail))); conv => whnf) | (refine ⟨_, rfl, ?_⟩; conv => whnf)))
  exact ⟨_, _, WeakV.drop rfl, h 0 (by rw [show pok f s t d = true from decide_eq_true ⟨by omega, by omega, h3, h4, by omega⟩]; rfl)⟩
theorem pcheck_k : Contract Tryd.prog [] 8 pcheckS := ⟨⟨⟨_, rfl, rfl, rfl⟩⟩, pcheck_c⟩
/-- The document's word. -/
def rrightS : Spec := fun args H Q => match args, H with
  | [.agg [.int .i64 f, .int .u64 s, .int .u64 t, .str d]], [] => Need (0 ≤ s ∧ 0 ≤ t) (∀ b : Bool, b = pok f s t d → Q (.bool b) [])
  | _, _ => False
theorem rright_c : Meets Tryd.prog [] 34 rrightS := by
  refine meets_of Γok Tryd.func34 rfl ?_
  intro args H Q h
  unfold rrightS at h
  split at h
  case h_2 => exact h.elim
  rename_i f s t d
  obtain ⟨⟨hs, ht⟩, h⟩ := h
  have fin : ∀ b : Bool, (b = true ↔ (0 ≤ f ∧ f ≤ 1 ∧ s ≠ 0 ∧ t ≠ 0 ∧ d.length ≤ 64)) → Q (.bool b) [] := by
    intro b hb
    refine h b ?_
    unfold pok
    cases b
    · exact (decide_eq_false (fun h0 => by have := hb.2 h0; cases this)).symm
    · exact (decide_eq_true (hb.1 rfl)).symm
  (refine sx_sound Γok _ ?_; conv => whnf)
  (repeat (first | (exact Out.same; conv => whnf) | (exact Out1.same; conv => whnf) | (refine QAnd.mk ?_ ?_; conv => whnf) | (apply QStepH.go; conv => whnf) | (refine Both.lit_true ?_; conv => whnf) | (refine Both.lit_false ?_; conv => whnf) | (apply QStep.go; conv => whnf) | (refine Need.mk ?_ ?_; (focus (first | omega | exact ⟨by omega, by omega⟩ | rfl | exact ⟨rfl, rfl⟩ | exact ⟨rfl, by omega, by omega⟩ | exact ⟨by omega, by omega, by omega⟩ | exact ⟨rfl, Nat.le_of_ble_eq_true rfl⟩ | exact Nat.le_of_ble_eq_true rfl | (refine ⟨rfl, rfl, ?_⟩; simp [isFar, ofV0, CV.up, SV.renL, SV.ren] <;> fail) | (refine ⟨rfl, Nat.le_of_ble_eq_true rfl, ?_⟩; simp [isFar, ofV0, CV.up, SV.renL, SV.ren] <;> fail) | (simp only [List.length_append, List.length_drop, List.length_take, List.length_replicate, List.length_map]; omega) | (simp <;> fail))); conv => whnf) | (refine ⟨_, rfl, ?_⟩; conv => whnf)))
  refine Both.dec (fun h1 => ?_) (fun h1 => ?_)
  all_goals
    (conv => whnf)
    (repeat (first | (exact Out.same; conv => whnf) | (exact Out1.same; conv => whnf) | (refine QAnd.mk ?_ ?_; conv => whnf) | (apply QStepH.go; conv => whnf) | (refine Both.lit_true ?_; conv => whnf) | (refine Both.lit_false ?_; conv => whnf) | (apply QStep.go; conv => whnf) | (refine Need.mk ?_ ?_; (focus (first | omega | exact ⟨by omega, by omega⟩ | rfl | exact ⟨rfl, rfl⟩ | exact ⟨rfl, by omega, by omega⟩ | exact ⟨by omega, by omega, by omega⟩ | exact ⟨rfl, Nat.le_of_ble_eq_true rfl⟩ | exact Nat.le_of_ble_eq_true rfl | (refine ⟨rfl, rfl, ?_⟩; simp [isFar, ofV0, CV.up, SV.renL, SV.ren] <;> fail) | (refine ⟨rfl, Nat.le_of_ble_eq_true rfl, ?_⟩; simp [isFar, ofV0, CV.up, SV.renL, SV.ren] <;> fail) | (simp only [List.length_append, List.length_drop, List.length_take, List.length_replicate, List.length_map]; omega) | (simp <;> fail))); conv => whnf) | (refine ⟨_, rfl, ?_⟩; conv => whnf)))
    try refine Both.dec (fun h2 => ?_) (fun h2 => ?_)
  all_goals
    (conv => whnf)
    (repeat (first | (exact Out.same; conv => whnf) | (exact Out1.same; conv => whnf) | (refine QAnd.mk ?_ ?_; conv => whnf) | (apply QStepH.go; conv => whnf) | (refine Both.lit_true ?_; conv => whnf) | (refine Both.lit_false ?_; conv => whnf) | (apply QStep.go; conv => whnf) | (refine Need.mk ?_ ?_; (focus (first | omega | exact ⟨by omega, by omega⟩ | rfl | exact ⟨rfl, rfl⟩ | exact ⟨rfl, by omega, by omega⟩ | exact ⟨by omega, by omega, by omega⟩ | exact ⟨rfl, Nat.le_of_ble_eq_true rfl⟩ | exact Nat.le_of_ble_eq_true rfl | (refine ⟨rfl, rfl, ?_⟩; simp [isFar, ofV0, CV.up, SV.renL, SV.ren] <;> fail) | (refine ⟨rfl, Nat.le_of_ble_eq_true rfl, ?_⟩; simp [isFar, ofV0, CV.up, SV.renL, SV.ren] <;> fail) | (simp only [List.length_append, List.length_drop, List.length_take, List.length_replicate, List.length_map]; omega) | (simp <;> fail))); conv => whnf) | (refine ⟨_, rfl, ?_⟩; conv => whnf)))
    try refine Both.dec (fun h3 => ?_) (fun h3 => ?_)
  all_goals
    (conv => whnf)
    (repeat (first | (exact Out.same; conv => whnf) | (exact Out1.same; conv => whnf) | (refine QAnd.mk ?_ ?_; conv => whnf) | (apply QStepH.go; conv => whnf) | (refine Both.lit_true ?_; conv => whnf) | (refine Both.lit_false ?_; conv => whnf) | (apply QStep.go; conv => whnf) | (refine Need.mk ?_ ?_; (focus (first | omega | exact ⟨by omega, by omega⟩ | rfl | exact ⟨rfl, rfl⟩ | exact ⟨rfl, by omega, by omega⟩ | exact ⟨by omega, by omega, by omega⟩ | exact ⟨rfl, Nat.le_of_ble_eq_true rfl⟩ | exact Nat.le_of_ble_eq_true rfl | (refine ⟨rfl, rfl, ?_⟩; simp [isFar, ofV0, CV.up, SV.renL, SV.ren] <;> fail) | (refine ⟨rfl, Nat.le_of_ble_eq_true rfl, ?_⟩; simp [isFar, ofV0, CV.up, SV.renL, SV.ren] <;> fail) | (simp only [List.length_append, List.length_drop, List.length_take, List.length_replicate, List.length_map]; omega) | (simp <;> fail))); conv => whnf) | (refine ⟨_, rfl, ?_⟩; conv => whnf)))
    try refine Both.dec (fun h4 => ?_) (fun h4 => ?_)
  all_goals
    (conv => whnf)
    (repeat (first | (exact Out.same; conv => whnf) | (exact Out1.same; conv => whnf) | (refine QAnd.mk ?_ ?_; conv => whnf) | (apply QStepH.go; conv => whnf) | (refine Both.lit_true ?_; conv => whnf) | (refine Both.lit_false ?_; conv => whnf) | (apply QStep.go; conv => whnf) | (refine Need.mk ?_ ?_; (focus (first | omega | exact ⟨by omega, by omega⟩ | rfl | exact ⟨rfl, rfl⟩ | exact ⟨rfl, by omega, by omega⟩ | exact ⟨by omega, by omega, by omega⟩ | exact ⟨rfl, Nat.le_of_ble_eq_true rfl⟩ | exact Nat.le_of_ble_eq_true rfl | (refine ⟨rfl, rfl, ?_⟩; simp [isFar, ofV0, CV.up, SV.renL, SV.ren] <;> fail) | (refine ⟨rfl, Nat.le_of_ble_eq_true rfl, ?_⟩; simp [isFar, ofV0, CV.up, SV.renL, SV.ren] <;> fail) | (simp only [List.length_append, List.length_drop, List.length_take, List.length_replicate, List.length_map]; omega) | (simp <;> fail))); conv => whnf) | (refine ⟨_, rfl, ?_⟩; conv => whnf)))
    try refine Both.dec (fun h5 => ?_) (fun h5 => ?_)
  all_goals
    (conv => whnf)
    (repeat (first | (exact Out.same; conv => whnf) | (exact Out1.same; conv => whnf) | (refine QAnd.mk ?_ ?_; conv => whnf) | (apply QStepH.go; conv => whnf) | (refine Both.lit_true ?_; conv => whnf) | (refine Both.lit_false ?_; conv => whnf) | (apply QStep.go; conv => whnf) | (refine Need.mk ?_ ?_; (focus (first | omega | exact ⟨by omega, by omega⟩ | rfl | exact ⟨rfl, rfl⟩ | exact ⟨rfl, by omega, by omega⟩ | exact ⟨by omega, by omega, by omega⟩ | exact ⟨rfl, Nat.le_of_ble_eq_true rfl⟩ | exact Nat.le_of_ble_eq_true rfl | (refine ⟨rfl, rfl, ?_⟩; simp [isFar, ofV0, CV.up, SV.renL, SV.ren] <;> fail) | (refine ⟨rfl, Nat.le_of_ble_eq_true rfl, ?_⟩; simp [isFar, ofV0, CV.up, SV.renL, SV.ren] <;> fail) | (simp only [List.length_append, List.length_drop, List.length_take, List.length_replicate, List.length_map]; omega) | (simp <;> fail))); conv => whnf) | (refine ⟨_, rfl, ?_⟩; conv => whnf)))
    refine ⟨_, _, WeakV.drop rfl, fin _ ?_⟩
    simp
    try omega
theorem rright_k : Contract Tryd.prog [] 34 rrightS := ⟨⟨⟨_, rfl, rfl, rfl⟩⟩, rright_c⟩
end Go.LX
end
section
set_option maxRecDepth 100000
set_option maxHeartbeats 4000000
set_option autoImplicit false
set_option linter.unusedVariables false
set_option linter.unusedSimpArgs false
namespace Go.LX
open Go.Proofs

/-! ## A packet is written, and read -/
def pmore (f s t : Int) (d : List UInt8) : List UInt8 := if pok f s t d then pbytes f s t d else []
theorem pbytes_len (f s t : Int) (d : List UInt8) : (pbytes f s t d).length = 19 + d.length := by
  simp [pbytes, beb_length]
  omega
theorem pmore_len (f s t : Int) (d : List UInt8) : (pmore f s t d).length ≤ 83 := by
  unfold pmore
  split
  · rename_i h
    simp [pok] at h
    rw [pbytes_len]
    omega
  · simp
def pputS : Spec := fun args H Q => match args, H with
  | [.ptr 0 0, .agg [.int .i64 f, .int .u64 s, .int .u64 t, .str d]], [.cells [.int .i64 e, .opt 0 1, .own 1] 34, .own 5 1 m xs true] =>
    Need ((0 ≤ s ∧ s < 18446744073709551616) ∧ 0 ≤ t ∧ t < 18446744073709551616) (∃ l : List UInt8, xs = bys l ∧ m = l.length ∧ l.length < 5000000 ∧
      ∀ e' l', e' = (if pok f s t d then e else errOf e) → l' = l ++ pmore f s t d → Q (.tuple []) (wrN e' l'))
  | _, _ => False
theorem pput_c : Meets Tryd.prog [] 6 pputS := by
  refine meets_of Γok Tryd.func6 rfl ?_
  intro args H Q h
  unfold pputS at h
  split at h
  case h_2 => exact h.elim
  rename_i f s t d e m xs
  obtain ⟨⟨hs, ht⟩, l, rfl, rfl, hl, h⟩ := h
  (refine sx_sound Γok _ ?_; conv => whnf)
  (repeat (first | (exact Out.same; conv => whnf) | (exact Out1.same; conv => whnf) | (refine QAnd.mk ?_ ?_; conv => whnf) | (apply QStepH.go; conv => whnf) | (refine Both.lit_true ?_; conv => whnf) | (refine Both.lit_false ?_; conv => whnf) | (apply QStep.go; conv => whnf) | (refine Need.mk ?_ ?_; (focus (first | omega | exact ⟨by omega, by omega⟩ | rfl | exact ⟨rfl, rfl⟩ | exact ⟨rfl, by omega, by omega⟩ | exact ⟨by omega, by omega, by omega⟩ | exact ⟨rfl, Nat.le_of_ble_eq_true rfl⟩ | exact Nat.le_of_ble_eq_true rfl | (refine ⟨rfl, rfl, ?_⟩; simp [isFar, ofV0, CV.up, SV.renL, SV.ren] <;> fail) | (refine ⟨rfl, Nat.le_of_ble_eq_true rfl, ?_⟩; simp [isFar, ofV0, CV.up, SV.renL, SV.ren] <;> fail) | (simp only [List.length_append, List.length_drop, List.length_take, List.length_replicate, List.length_map]; omega) | (simp <;> fail))); conv => whnf) | (refine ⟨_, rfl, ?_⟩; conv => whnf)))
  refine CallVC.auto pcheck_k ?_
  (conv => whnf)
  intro x hx
  cases hp : pok f s t d
  · obtain rfl : x = 1 := by rw [hx, hp]; rfl
    (conv => whnf)
    (repeat (first | (exact Out.same; conv => whnf) | (exact Out1.same; conv => whnf) | (refine QAnd.mk ?_ ?_; conv => whnf) | (apply QStepH.go; conv => whnf) | (refine Both.lit_true ?_; conv => whnf) | (refine Both.lit_false ?_; conv => whnf) | (apply QStep.go; conv => whnf) | (refine Need.mk ?_ ?_; (focus (first | omega | exact ⟨by omega, by omega⟩ | rfl | exact ⟨rfl, rfl⟩ | exact ⟨rfl, by omega, by omega⟩ | exact ⟨by omega, by omega, by omega⟩ | exact ⟨rfl, Nat.le_of_ble_eq_true rfl⟩ | exact Nat.le_of_ble_eq_true rfl | (refine ⟨rfl, rfl, ?_⟩; simp [isFar, ofV0, CV.up, SV.renL, SV.ren] <;> fail) | (refine ⟨rfl, Nat.le_of_ble_eq_true rfl, ?_⟩; simp [isFar, ofV0, CV.up, SV.renL, SV.ren] <;> fail) | (simp only [List.length_append, List.length_drop, List.length_take, List.length_replicate, List.length_map]; omega) | (simp <;> fail))); conv => whnf) | (refine ⟨_, rfl, ?_⟩; conv => whnf)))
    refine CallVC.auto byteBad_k (Need.mk (by omega) ⟨l, rfl, rfl, by omega, ?_⟩)
    (conv => whnf)
    refine ⟨_, _, WeakV.auto ?_, h (errOf e) l (by simp [hp]) (by simp [pmore, hp])⟩
    (repeat' ((conv => whnf); first | exact True.intro | (refine And.intro ?_ ?_)))
    all_goals first | rfl | exact .eq rfl | (simp; done)
  · obtain rfl : x = 0 := by rw [hx, hp]; rfl
    have hb : 0 ≤ f ∧ f ≤ 1 ∧ d.length ≤ 64 := by
      simp [pok] at hp
      omega
    (conv => whnf)
    (repeat (first | (exact Out.same; conv => whnf) | (exact Out1.same; conv => whnf) | (refine QAnd.mk ?_ ?_; conv => whnf) | (apply QStepH.go; conv => whnf) | (refine Both.lit_true ?_; conv => whnf) | (refine Both.lit_false ?_; conv => whnf) | (apply QStep.go; conv => whnf) | (refine Need.mk ?_ ?_; (focus (first | omega | exact ⟨by omega, by omega⟩ | rfl | exact ⟨rfl, rfl⟩ | exact ⟨rfl, by omega, by omega⟩ | exact ⟨by omega, by omega, by omega⟩ | exact ⟨rfl, Nat.le_of_ble_eq_true rfl⟩ | exact Nat.le_of_ble_eq_true rfl | (refine ⟨rfl, rfl, ?_⟩; simp [isFar, ofV0, CV.up, SV.renL, SV.ren] <;> fail) | (refine ⟨rfl, Nat.le_of_ble_eq_true rfl, ?_⟩; simp [isFar, ofV0, CV.up, SV.renL, SV.ren] <;> fail) | (simp only [List.length_append, List.length_drop, List.length_take, List.length_replicate, List.length_map]; omega) | (simp <;> fail))); conv => whnf) | (refine ⟨_, rfl, ?_⟩; conv => whnf)))
    refine CallVC.auto byteOk_k (Need.mk (by omega) ⟨l, rfl, rfl, by omega, ?_⟩)
    (conv => whnf)
    (repeat (first | (exact Out.same; conv => whnf) | (exact Out1.same; conv => whnf) | (refine QAnd.mk ?_ ?_; conv => whnf) | (apply QStepH.go; conv => whnf) | (refine Both.lit_true ?_; conv => whnf) | (refine Both.lit_false ?_; conv => whnf) | (apply QStep.go; conv => whnf) | (refine Need.mk ?_ ?_; (focus (first | omega | exact ⟨by omega, by omega⟩ | rfl | exact ⟨rfl, rfl⟩ | exact ⟨rfl, by omega, by omega⟩ | exact ⟨by omega, by omega, by omega⟩ | exact ⟨rfl, Nat.le_of_ble_eq_true rfl⟩ | exact Nat.le_of_ble_eq_true rfl | (refine ⟨rfl, rfl, ?_⟩; simp [isFar, ofV0, CV.up, SV.renL, SV.ren] <;> fail) | (refine ⟨rfl, Nat.le_of_ble_eq_true rfl, ?_⟩; simp [isFar, ofV0, CV.up, SV.renL, SV.ren] <;> fail) | (simp only [List.length_append, List.length_drop, List.length_take, List.length_replicate, List.length_map]; omega) | (simp <;> fail))); conv => whnf) | (refine ⟨_, rfl, ?_⟩; conv => whnf)))
    refine CallVC.auto numOk_k (Need.mk hs ⟨_, rfl, rfl, by simp; omega, ?_⟩)
    (conv => whnf)
    (repeat (first | (exact Out.same; conv => whnf) | (exact Out1.same; conv => whnf) | (refine QAnd.mk ?_ ?_; conv => whnf) | (apply QStepH.go; conv => whnf) | (refine Both.lit_true ?_; conv => whnf) | (refine Both.lit_false ?_; conv => whnf) | (apply QStep.go; conv => whnf) | (refine Need.mk ?_ ?_; (focus (first | omega | exact ⟨by omega, by omega⟩ | rfl | exact ⟨rfl, rfl⟩ | exact ⟨rfl, by omega, by omega⟩ | exact ⟨by omega, by omega, by omega⟩ | exact ⟨rfl, Nat.le_of_ble_eq_true rfl⟩ | exact Nat.le_of_ble_eq_true rfl | (refine ⟨rfl, rfl, ?_⟩; simp [isFar, ofV0, CV.up, SV.renL, SV.ren] <;> fail) | (refine ⟨rfl, Nat.le_of_ble_eq_true rfl, ?_⟩; simp [isFar, ofV0, CV.up, SV.renL, SV.ren] <;> fail) | (simp only [List.length_append, List.length_drop, List.length_take, List.length_replicate, List.length_map]; omega) | (simp <;> fail))); conv => whnf) | (refine ⟨_, rfl, ?_⟩; conv => whnf)))
    refine CallVC.auto numOk_k (Need.mk ht ⟨_, rfl, rfl, by simp [beb_length]; omega, ?_⟩)
    (conv => whnf)
    (repeat (first | (exact Out.same; conv => whnf) | (exact Out1.same; conv => whnf) | (refine QAnd.mk ?_ ?_; conv => whnf) | (apply QStepH.go; conv => whnf) | (refine Both.lit_true ?_; conv => whnf) | (refine Both.lit_false ?_; conv => whnf) | (apply QStep.go; conv => whnf) | (refine Need.mk ?_ ?_; (focus (first | omega | exact ⟨by omega, by omega⟩ | rfl | exact ⟨rfl, rfl⟩ | exact ⟨rfl, by omega, by omega⟩ | exact ⟨by omega, by omega, by omega⟩ | exact ⟨rfl, Nat.le_of_ble_eq_true rfl⟩ | exact Nat.le_of_ble_eq_true rfl | (refine ⟨rfl, rfl, ?_⟩; simp [isFar, ofV0, CV.up, SV.renL, SV.ren] <;> fail) | (refine ⟨rfl, Nat.le_of_ble_eq_true rfl, ?_⟩; simp [isFar, ofV0, CV.up, SV.renL, SV.ren] <;> fail) | (simp only [List.length_append, List.length_drop, List.length_take, List.length_replicate, List.length_map]; omega) | (simp <;> fail))); conv => whnf) | (refine ⟨_, rfl, ?_⟩; conv => whnf)))
    refine CallVC.auto textOk_k (Need.mk (by omega) ⟨_, rfl, rfl, by simp [beb_length]; omega, ?_⟩)
    (conv => whnf)
    refine ⟨_, _, WeakV.auto ?_, h e (l ++ pmore f s t d) (by simp [hp]) rfl⟩
    have he : l ++ [UInt8.ofNat f.toNat] ++ beb s.toNat 8 ++ beb t.toNat 8 ++ (beb d.length 2 ++ d) = l ++ pmore f s t d := by
      rw [pmore, hp, if_pos rfl, pbytes]
      simp [beb]
    rw [← he]
    (repeat' ((conv => whnf); first | exact True.intro | (refine And.intro ?_ ?_)))
    all_goals first | rfl | exact .eq rfl
theorem pput_k : Contract Tryd.prog [] 6 pputS := ⟨⟨⟨_, rfl, rfl, rfl⟩⟩, pput_c⟩

/-- A reader behind so many bytes. -/
def nx (q : Int × List UInt8) (n : Int) : Int × List UInt8 := (rdE q.1 n q.2, rdS q.1 n q.2)
theorem nx_len (q : Int × List UInt8) (n : Int) : (nx q n).2.length ≤ q.2.length := rdS_len _ _ _
def pgF (q : Int × List UInt8) : Int := (rdV q.1 1 q.2 : Int)
def pgQ (q : Int × List UInt8) : Int := (rdV (nx q 1).1 8 (nx q 1).2 : Int)
def pgT (q : Int × List UInt8) : Int := (rdV (nx (nx q 1) 8).1 8 (nx (nx q 1) 8).2 : Int)
def pg3 (q : Int × List UInt8) : Int × List UInt8 := nx (nx (nx q 1) 8) 8
def pgN (q : Int × List UInt8) : Int := (rdV (pg3 q).1 2 (pg3 q).2 : Int)
def pg4 (q : Int × List UInt8) : Int × List UInt8 := nx (pg3 q) 2
def pgD (q : Int × List UInt8) : List UInt8 := rdT (pg4 q).1 (pgN q) (pg4 q).2
def pg5 (q : Int × List UInt8) : Int × List UInt8 := nx (pg4 q) (pgN q)
/-- The error that is remembered in the end. -/
def pgE (q : Int × List UInt8) : Int := if pok (pgF q) (pgQ q) (pgT q) (pgD q) then (pg5 q).1 else if (pg5 q).1 = 0 then 5 else (pg5 q).1
def pgetS : Spec := fun args H Q => match args, H with
  | [.ptr 0 0], [.cells [.int .i64 e, .str s] 67] => Need (s.length < 1000000) (∀ (f u t e' : Int) (d s' : List UInt8), e' = pgE (e, s) → s' = (pg5 (e, s)).2 →
      ((e' = 0 ∧ f = pgF (e, s) ∧ u = pgQ (e, s) ∧ t = pgT (e, s) ∧ d = pgD (e, s) ∧ pok f u t d = true) ∨ (e' ≠ 0 ∧ f = 0 ∧ u = 0 ∧ t = 0 ∧ d = [])) → Q (.agg [.int .i64 f, .int .u64 u, .int .u64 t, .str d]) (rd e' s'))
  | _, _ => False
theorem pget_c : Meets Tryd.prog [] 11 pgetS := by
  refine meets_of Γok Tryd.func11 rfl ?_
  intro args H Q h
  unfold pgetS at h
  split at h
  case h_2 => exact h.elim
  rename_i e s
  obtain ⟨hs, h⟩ := h
  have l1 := nx_len (e, s) 1
  have l2 := nx_len (nx (e, s) 1) 8
  have l3 := nx_len (nx (nx (e, s) 1) 8) 8
  have l1' : (e, s).2.length = s.length := rfl
  (refine sx_sound Γok _ ?_; conv => whnf)
  refine CallVC.auto rbyte_k (Need.mk hs ?_)
  (conv => whnf)
  refine CallVC.auto rnum_k (Need.mk (show (nx (e, s) 1).2.length < 1000000 by omega) ?_)
  (conv => whnf)
  refine CallVC.auto rnum_k (Need.mk (show (nx (nx (e, s) 1) 8).2.length < 1000000 by omega) ?_)
  (conv => whnf)
  refine CallVC.auto rtext_k (Need.mk (show (pg3 (e, s)).2.length < 1000000 by unfold pg3; omega) ?_)
  (conv => whnf)
  (repeat (first | (exact Out.same; conv => whnf) | (exact Out1.same; conv => whnf) | (refine QAnd.mk ?_ ?_; conv => whnf) | (apply QStepH.go; conv => whnf) | (refine Both.lit_true ?_; conv => whnf) | (refine Both.lit_false ?_; conv => whnf) | (apply QStep.go; conv => whnf) | (refine Need.mk ?_ ?_; (focus (first | omega | exact ⟨by omega, by omega⟩ | rfl | exact ⟨rfl, rfl⟩ | exact ⟨rfl, by omega, by omega⟩ | exact ⟨by omega, by omega, by omega⟩ | exact ⟨rfl, Nat.le_of_ble_eq_true rfl⟩ | exact Nat.le_of_ble_eq_true rfl | (refine ⟨rfl, rfl, ?_⟩; simp [isFar, ofV0, CV.up, SV.renL, SV.ren] <;> fail) | (refine ⟨rfl, Nat.le_of_ble_eq_true rfl, ?_⟩; simp [isFar, ofV0, CV.up, SV.renL, SV.ren] <;> fail) | (simp only [List.length_append, List.length_drop, List.length_take, List.length_replicate, List.length_map]; omega) | (simp <;> fail))); conv => whnf) | (refine ⟨_, rfl, ?_⟩; conv => whnf)))
  refine CallVC.auto pcheck_k ?_
  (conv => whnf)
  intro x hx
  change x = okE (pok (pgF (e, s)) (pgQ (e, s)) (pgT (e, s)) (pgD (e, s))) at hx
  have hE : pgE (e, s) = if pok (pgF (e, s)) (pgQ (e, s)) (pgT (e, s)) (pgD (e, s)) then (pg5 (e, s)).1 else if (pg5 (e, s)).1 = 0 then 5 else (pg5 (e, s)).1 := rfl
  cases hp : pok (pgF (e, s)) (pgQ (e, s)) (pgT (e, s)) (pgD (e, s))
  · obtain rfl : x = 1 := by rw [hx, hp]; rfl
    (conv => whnf)
    (repeat (first | (exact Out.same; conv => whnf) | (exact Out1.same; conv => whnf) | (refine QAnd.mk ?_ ?_; conv => whnf) | (apply QStepH.go; conv => whnf) | (refine Both.lit_true ?_; conv => whnf) | (refine Both.lit_false ?_; conv => whnf) | (apply QStep.go; conv => whnf) | (refine Need.mk ?_ ?_; (focus (first | omega | exact ⟨by omega, by omega⟩ | rfl | exact ⟨rfl, rfl⟩ | exact ⟨rfl, by omega, by omega⟩ | exact ⟨by omega, by omega, by omega⟩ | exact ⟨rfl, Nat.le_of_ble_eq_true rfl⟩ | exact Nat.le_of_ble_eq_true rfl | (refine ⟨rfl, rfl, ?_⟩; simp [isFar, ofV0, CV.up, SV.renL, SV.ren] <;> fail) | (refine ⟨rfl, Nat.le_of_ble_eq_true rfl, ?_⟩; simp [isFar, ofV0, CV.up, SV.renL, SV.ren] <;> fail) | (simp only [List.length_append, List.length_drop, List.length_take, List.length_replicate, List.length_map]; omega) | (simp <;> fail))); conv => whnf) | (refine ⟨_, rfl, ?_⟩; conv => whnf)))
    refine CallVC.auto failA_k ?_
    intro e' he'
    change e' = (if (pg5 (e, s)).1 = 0 then 5 else (pg5 (e, s)).1) at he'
    rw [hp] at hE
    have hEe : e' = pgE (e, s) := by rw [he', hE]; rfl
    have hne : ¬ e' = 0 := by
      rw [he']
      split <;> omega
    (conv => whnf)
    (repeat (first | (exact Out.same; conv => whnf) | (exact Out1.same; conv => whnf) | (refine QAnd.mk ?_ ?_; conv => whnf) | (apply QStepH.go; conv => whnf) | (refine Both.lit_true ?_; conv => whnf) | (refine Both.lit_false ?_; conv => whnf) | (apply QStep.go; conv => whnf) | (refine Need.mk ?_ ?_; (focus (first | omega | exact ⟨by omega, by omega⟩ | rfl | exact ⟨rfl, rfl⟩ | exact ⟨rfl, by omega, by omega⟩ | exact ⟨by omega, by omega, by omega⟩ | exact ⟨rfl, Nat.le_of_ble_eq_true rfl⟩ | exact Nat.le_of_ble_eq_true rfl | (refine ⟨rfl, rfl, ?_⟩; simp [isFar, ofV0, CV.up, SV.renL, SV.ren] <;> fail) | (refine ⟨rfl, Nat.le_of_ble_eq_true rfl, ?_⟩; simp [isFar, ofV0, CV.up, SV.renL, SV.ren] <;> fail) | (simp only [List.length_append, List.length_drop, List.length_take, List.length_replicate, List.length_map]; omega) | (simp <;> fail))); conv => whnf) | (refine ⟨_, rfl, ?_⟩; conv => whnf) | (refine CallVC.auto errA_k ?_; conv => whnf) | (refine Both.of_false ?_ ?_; (focus (first | rfl | (simp [hne] <;> fail))); conv => whnf) | (refine Both.of_true ?_ ?_; (focus (first | rfl | (simp [hne] <;> fail))); conv => whnf)))
    refine ⟨_, _, WeakV.auto ?_, h 0 0 0 e' [] (pg5 (e, s)).2 hEe rfl (.inr ⟨hne, rfl, rfl, rfl, rfl⟩)⟩
    (repeat' ((conv => whnf); first | exact True.intro | (refine And.intro ?_ ?_)))
    all_goals first | rfl | exact .eq rfl
  · obtain rfl : x = 0 := by rw [hx, hp]; rfl
    rw [hp, if_pos rfl] at hE
    (conv => whnf)
    (repeat (first | (exact Out.same; conv => whnf) | (exact Out1.same; conv => whnf) | (refine QAnd.mk ?_ ?_; conv => whnf) | (apply QStepH.go; conv => whnf) | (refine Both.lit_true ?_; conv => whnf) | (refine Both.lit_false ?_; conv => whnf) | (apply QStep.go; conv => whnf) | (refine Need.mk ?_ ?_; (focus (first | omega | exact ⟨by omega, by omega⟩ | rfl | exact ⟨rfl, rfl⟩ | exact ⟨rfl, by omega, by omega⟩ | exact ⟨by omega, by omega, by omega⟩ | exact ⟨rfl, Nat.le_of_ble_eq_true rfl⟩ | exact Nat.le_of_ble_eq_true rfl | (refine ⟨rfl, rfl, ?_⟩; simp [isFar, ofV0, CV.up, SV.renL, SV.ren] <;> fail) | (refine ⟨rfl, Nat.le_of_ble_eq_true rfl, ?_⟩; simp [isFar, ofV0, CV.up, SV.renL, SV.ren] <;> fail) | (simp only [List.length_append, List.length_drop, List.length_take, List.length_replicate, List.length_map]; omega) | (simp <;> fail))); conv => whnf) | (refine ⟨_, rfl, ?_⟩; conv => whnf) | (refine CallVC.auto errA_k ?_; conv => whnf)))
    refine Both.dec_not (fun hne => ?_) (fun h0 => ?_)
    · (conv => whnf)
      (repeat (first | (exact Out.same; conv => whnf) | (exact Out1.same; conv => whnf) | (refine QAnd.mk ?_ ?_; conv => whnf) | (apply QStepH.go; conv => whnf) | (refine Both.lit_true ?_; conv => whnf) | (refine Both.lit_false ?_; conv => whnf) | (apply QStep.go; conv => whnf) | (refine Need.mk ?_ ?_; (focus (first | omega | exact ⟨by omega, by omega⟩ | rfl | exact ⟨rfl, rfl⟩ | exact ⟨rfl, by omega, by omega⟩ | exact ⟨by omega, by omega, by omega⟩ | exact ⟨rfl, Nat.le_of_ble_eq_true rfl⟩ | exact Nat.le_of_ble_eq_true rfl | (refine ⟨rfl, rfl, ?_⟩; simp [isFar, ofV0, CV.up, SV.renL, SV.ren] <;> fail) | (refine ⟨rfl, Nat.le_of_ble_eq_true rfl, ?_⟩; simp [isFar, ofV0, CV.up, SV.renL, SV.ren] <;> fail) | (simp only [List.length_append, List.length_drop, List.length_take, List.length_replicate, List.length_map]; omega) | (simp <;> fail))); conv => whnf) | (refine ⟨_, rfl, ?_⟩; conv => whnf)))
      refine ⟨_, _, WeakV.auto ?_, h 0 0 0 (pg5 (e, s)).1 [] (pg5 (e, s)).2 hE.symm rfl (.inr ⟨hne, rfl, rfl, rfl, rfl⟩)⟩
      (repeat' ((conv => whnf); first | exact True.intro | (refine And.intro ?_ ?_)))
      all_goals first | rfl | exact .eq rfl
    · (conv => whnf)
      (repeat (first | (exact Out.same; conv => whnf) | (exact Out1.same; conv => whnf) | (refine QAnd.mk ?_ ?_; conv => whnf) | (apply QStepH.go; conv => whnf) | (refine Both.lit_true ?_; conv => whnf) | (refine Both.lit_false ?_; conv => whnf) | (apply QStep.go; conv => whnf) | (refine Need.mk ?_ ?_; (focus (first | omega | exact ⟨by omega, by omega⟩ | rfl | exact ⟨rfl, rfl⟩ | exact ⟨rfl, by omega, by omega⟩ | exact ⟨by omega, by omega, by omega⟩ | exact ⟨rfl, Nat.le_of_ble_eq_true rfl⟩ | exact Nat.le_of_ble_eq_true rfl | (refine ⟨rfl, rfl, ?_⟩; simp [isFar, ofV0, CV.up, SV.renL, SV.ren] <;> fail) | (refine ⟨rfl, Nat.le_of_ble_eq_true rfl, ?_⟩; simp [isFar, ofV0, CV.up, SV.renL, SV.ren] <;> fail) | (simp only [List.length_append, List.length_drop, List.length_take, List.length_replicate, List.length_map]; omega) | (simp <;> fail))); conv => whnf) | (refine ⟨_, rfl, ?_⟩; conv => whnf)))
      refine ⟨_, _, WeakV.auto ?_, h (pgF (e, s)) (pgQ (e, s)) (pgT (e, s)) (pg5 (e, s)).1 (pgD (e, s)) (pg5 (e, s)).2 hE.symm rfl (.inl ⟨h0, rfl, rfl, rfl, rfl, hp⟩)⟩
      (repeat' ((conv => whnf); first | exact True.intro | (refine And.intro ?_ ?_)))
      all_goals first | rfl | exact .eq rfl
theorem pget_k : Contract Tryd.prog [] 11 pgetS := ⟨⟨⟨_, rfl, rfl, rfl⟩⟩, pget_c⟩
end Go.LX
end
section
set_option maxRecDepth 100000
set_option maxHeartbeats 4000000
set_option autoImplicit false
set_option linter.unusedVariables false
set_option linter.unusedSimpArgs false
namespace Go.LX
open Go.Proofs

def rbS : Spec := fun args H Q => match args, H with
  | [.int .u64 n, .int .i64 c], [] => ∃ v k : Nat, n = v ∧ v < 18446744073709551616 ∧ c = k ∧ k ≤ 8 ∧ Q (.str (beb v k)) []
  | _, _ => False
theorem rem_go (q : Nat) : IntKind.u8.wrap ((q : Int).tmod 256) = ((UInt8.ofNat q).toNat : Int) := by
  rw [Int.tmod_eq_emod_of_nonneg (by omega), wrap_u8_mod]
  simp
theorem quo_go (q : Nat) (hv : q < 18446744073709551616) : IntKind.u64.wrap ((q : Int).tdiv 256) = ((q / 256 : Nat) : Int) := by
  rw [Int.tdiv_eq_ediv_of_nonneg (by omega), wrap_u64 (by omega) (by omega)]
  omega
theorem cv_by (b : UInt8) : cvByte (.int .u8 (b.toNat : Int)) = b := by
  show UInt8.ofNat ((b.toNat : Int)).toNat = b
  rw [Int.toNat_natCast]
  simp
theorem rb_c : Meets Tryd.prog [] 46 rbS := by
  refine meets_of Γok Tryd.func46 rfl ?_
  intro args H Q h
  unfold rbS at h
  split at h
  case h_2 => exact h.elim
  obtain ⟨v, c, rfl, hv, rfl, hc, h⟩ := h
  (refine sx_sound Γok _ ?_; conv => whnf)
  refine loop_rule (fun j : Nat => ⟨[.int .u64 ((v / 256 ^ j : Nat) : Int), .int .i64 (c : Int), .any, .any, .any, .str (beb v j), .int .i64 (j : Int), .any, .any, .any, .any, .any, .any, .any, .any, .any, .any, .any, .any, .any, .any, .any], []⟩) (fun j => j ≤ c) (fun j => c - j) 0 (by omega) ?_ ?_
  · refine Weak.le ?_ ?_
    · (repeat' ((conv => whnf); first | exact True.intro | (refine And.intro ?_ ?_)))
      all_goals first | rfl | (rw [Nat.pow_zero, Nat.div_one])
    · (repeat' ((conv => whnf); first | exact True.intro | (refine And.intro ?_ ?_)))
  · intro j hj
    (refine sx_sound Γok _ ?_; conv => whnf)
    refine Both.dec (fun hlt => ?_) (fun hge => ?_)
    · (conv => whnf)
      (repeat (first | (refine Both.lit_true ?_; conv => whnf) | (refine Both.lit_false ?_; conv => whnf) | (refine Need.mk ?_ ?_; (focus (first | omega | exact ⟨by omega, by omega⟩ | rfl | exact ⟨rfl, rfl⟩ | exact ⟨rfl, Nat.le_of_ble_eq_true rfl⟩ | exact Nat.le_of_ble_eq_true rfl | (refine ⟨rfl, rfl, ?_⟩; simp [isFar, ofV0, CV.up, SV.renL, SV.ren] <;> fail) | (refine ⟨rfl, Nat.le_of_ble_eq_true rfl, ?_⟩; simp [isFar, ofV0, CV.up, SV.renL, SV.ren] <;> fail) | (simp <;> fail))); conv => whnf)))
      rw [rem_go]
      refine Need.mk ⟨rfl, by simp [isU8]⟩ ?_
      (conv => whnf)
      refine Need.mk (by rw [beb_length]; simp; omega) ?_
      (conv => whnf)
      (repeat (first | (refine Both.lit_true ?_; conv => whnf) | (refine Both.lit_false ?_; conv => whnf) | (refine Need.mk ?_ ?_; (focus (first | omega | exact ⟨by omega, by omega⟩ | rfl | exact ⟨rfl, rfl⟩ | exact ⟨rfl, Nat.le_of_ble_eq_true rfl⟩ | exact Nat.le_of_ble_eq_true rfl | (refine ⟨rfl, rfl, ?_⟩; simp [isFar, ofV0, CV.up, SV.renL, SV.ren] <;> fail) | (refine ⟨rfl, Nat.le_of_ble_eq_true rfl, ?_⟩; simp [isFar, ofV0, CV.up, SV.renL, SV.ren] <;> fail) | (simp <;> fail))); conv => whnf)))
      have hq : v / 256 ^ j < 18446744073709551616 := Nat.lt_of_le_of_lt (Nat.div_le_self _ _) hv
      refine ⟨j + 1, by omega, by omega, Weak.le ?_ ?_⟩
      · (repeat' ((conv => whnf); first | exact True.intro | (refine And.intro ?_ ?_)))
        all_goals first | rfl | exact congrArg (SV.int .u64) (by rw [quo_go _ hq, Nat.pow_succ, ← Nat.div_div_eq_div_mul]) | exact congrArg (SV.int .i64) (by rw [wrap_i64 (by omega) (by omega)]; rfl) | exact congrArg (fun x => SV.str (x :: beb v j)) (cv_by _)
      · (repeat' ((conv => whnf); first | exact True.intro | (refine And.intro ?_ ?_)))
    · obtain rfl : j = c := by omega
      (conv => whnf)
      exact ⟨_, _, WeakV.drop rfl, h⟩
theorem rb_k : Contract Tryd.prog [] 46 rbS := ⟨⟨⟨_, rfl, rfl, rfl⟩⟩, rb_c⟩
end Go.LX
end
section
set_option maxRecDepth 100000
set_option maxHeartbeats 4000000
set_option autoImplicit false
set_option linter.unusedVariables false
set_option linter.unusedSimpArgs false
namespace Go.LX
open Go.Proofs

/-! ## Keys -/
theorem ibs (E : Env) (w : World) (l : List UInt8) (c : Int) (vs : List Value) (h : VRs E w [.str l, .int .u8 c] vs) :
    ∃ v, (callFunc 79 vs.toArray).run Tryd.prog w = .ok (.value v) w ∧ VR E w (.int .i64 (Lib.indexByte l c.toNat.toUInt8)) v := by
  obtain ⟨h1, h2⟩ := h
  match vs, h1 with
  | [a, b], _ =>
    have ha := h2 0 _ a rfl rfl
    have hb := h2 1 _ b rfl rfl
    cases ha
    cases hb
    refine ⟨_, ?_, .int _ _⟩
    rw [Go.run_callFunc_extern Tryd.func79 (by kernel_rfl) (by kernel_rfl) (by kernel_rfl) (e := Extern.BytealgIndexByte.indexByte) (by kernel_rfl)]
    have := Lib.run_indexByteString (P := Tryd.prog) ⟨l.toArray⟩ c w
    simp [this]
def sibS : Spec := fun args H Q => match args, H with
  | [.str s, .int .u8 c], [] => Q (.int .i64 (Lib.indexByte s c.toNat.toUInt8)) []
  | _, _ => False
theorem sib_c : Meets Tryd.prog [] 65 sibS := by
  refine meets_of Γok Tryd.func65 rfl ?_
  intro args H Q h
  unfold sibS at h
  split at h
  case h_2 => exact h.elim
  rename_i s c
  (refine sx_sound Γok _ ?_; conv => whnf)
  refine CallVC.ext _ (fun E w vs h => ibs E w s c vs h) ?_
  (conv => whnf)
  exact ⟨_, _, WeakV.drop rfl, h⟩
theorem sib_k : Contract Tryd.prog [] 65 sibS := ⟨⟨⟨_, rfl, rfl, rfl⟩⟩, sib_c⟩
def six1S : Spec := fun args H Q => match args, H with
  | [.str s, .str [b]], [] => Need (s.length ≠ 1) (Q (.int .i64 (Lib.indexByte s b)) [])
  | _, _ => False
theorem six1_c : Meets Tryd.prog [] 56 six1S := by
  refine meets_of Γok Tryd.func56 rfl ?_
  intro args H Q h
  unfold six1S at h
  split at h
  case h_2 => exact h.elim
  rename_i s b
  obtain ⟨hs, h⟩ := h
  (refine sx_sound Γok _ ?_; conv => whnf)
  (repeat (first | (exact Out.same; conv => whnf) | (exact Out1.same; conv => whnf) | (refine QAnd.mk ?_ ?_; conv => whnf) | (apply QStepH.go; conv => whnf) | (refine Both.lit_true ?_; conv => whnf) | (refine Both.lit_false ?_; conv => whnf) | (apply QStep.go; conv => whnf) | (refine Need.mk ?_ ?_; (focus (first | omega | exact ⟨by omega, by omega⟩ | rfl | exact ⟨rfl, rfl⟩ | exact ⟨rfl, by omega, by omega⟩ | exact ⟨by omega, by omega, by omega⟩ | exact ⟨rfl, Nat.le_of_ble_eq_true rfl⟩ | exact Nat.le_of_ble_eq_true rfl | (refine ⟨rfl, rfl, ?_⟩; simp [isFar, ofV0, CV.up, SV.renL, SV.ren] <;> fail) | (refine ⟨rfl, Nat.le_of_ble_eq_true rfl, ?_⟩; simp [isFar, ofV0, CV.up, SV.renL, SV.ren] <;> fail) | (simp only [List.length_append, List.length_drop, List.length_take, List.length_replicate, List.length_map]; omega) | (simp <;> fail))); conv => whnf) | (refine ⟨_, rfl, ?_⟩; conv => whnf)))
  refine Both.dec (fun h0 => absurd (by rw [← h0]; rfl) hs) (fun h0 => ?_)
  (conv => whnf)
  (repeat (first | (exact Out.same; conv => whnf) | (exact Out1.same; conv => whnf) | (refine QAnd.mk ?_ ?_; conv => whnf) | (apply QStepH.go; conv => whnf) | (refine Both.lit_true ?_; conv => whnf) | (refine Both.lit_false ?_; conv => whnf) | (apply QStep.go; conv => whnf) | (refine Need.mk ?_ ?_; (focus (first | omega | exact ⟨by omega, by omega⟩ | rfl | exact ⟨rfl, rfl⟩ | exact ⟨rfl, by omega, by omega⟩ | exact ⟨by omega, by omega, by omega⟩ | exact ⟨rfl, Nat.le_of_ble_eq_true rfl⟩ | exact Nat.le_of_ble_eq_true rfl | (refine ⟨rfl, rfl, ?_⟩; simp [isFar, ofV0, CV.up, SV.renL, SV.ren] <;> fail) | (refine ⟨rfl, Nat.le_of_ble_eq_true rfl, ?_⟩; simp [isFar, ofV0, CV.up, SV.renL, SV.ren] <;> fail) | (simp only [List.length_append, List.length_drop, List.length_take, List.length_replicate, List.length_map]; omega) | (simp <;> fail))); conv => whnf) | (refine ⟨_, rfl, ?_⟩; conv => whnf)))
  refine CallVC.auto sib_k ?_
  (conv => whnf)
  refine ⟨_, _, WeakV.drop (congrArg (SV.int .i64) ?_), h⟩
  simp
theorem six1_k : Contract Tryd.prog [] 56 six1S := ⟨⟨⟨_, rfl, rfl, rfl⟩⟩, six1_c⟩
def idx1S : Spec := six1S
theorem idx1_c : Meets Tryd.prog [] 47 six1S := by
  refine meets_of Γok Tryd.func47 rfl ?_
  intro args H Q h
  unfold six1S at h
  split at h
  case h_2 => exact h.elim
  obtain ⟨hs, h⟩ := h
  (refine sx_sound Γok _ ?_; conv => whnf)
  refine CallVC.auto six1_k (Need.mk hs ?_)
  (conv => whnf)
  exact ⟨_, _, WeakV.drop rfl, h⟩
theorem idx1_k : Contract Tryd.prog [] 47 six1S := ⟨⟨⟨_, rfl, rfl, rfl⟩⟩, idx1_c⟩
def con1S : Spec := fun args H Q => match args, H with
  | [.str s, .str [b]], [] => Need (s.length ≠ 1) (Q (.bool (decide (0 ≤ Lib.indexByte s b))) [])
  | _, _ => False
theorem con1_c : Meets Tryd.prog [] 37 con1S := by
  refine meets_of Γok Tryd.func37 rfl ?_
  intro args H Q h
  unfold con1S at h
  split at h
  case h_2 => exact h.elim
  obtain ⟨hs, h⟩ := h
  (refine sx_sound Γok _ ?_; conv => whnf)
  refine CallVC.auto idx1_k (Need.mk hs ?_)
  (conv => whnf)
  exact ⟨_, _, WeakV.drop rfl, h⟩
theorem con1_k : Contract Tryd.prog [] 37 con1S := ⟨⟨⟨_, rfl, rfl, rfl⟩⟩, con1_c⟩
theorem cra (b : UInt8) : decide (0 ≤ Lib.indexByte [99, 114, 97] b) = decide (b = 99 ∨ b = 114 ∨ b = 97) := by
  unfold Lib.indexByte Lib.indexByte Lib.indexByte Lib.indexByte
  by_cases h1 : b = 99
  · subst h1; rfl
  by_cases h2 : b = 114
  · subst h2; rfl
  by_cases h3 : b = 97
  · subst h3; rfl
  have e1 : (99 == b) = false := by simpa using Ne.symm h1
  have e2 : (114 == b) = false := by simpa using Ne.symm h2
  have e3 : (97 == b) = false := by simpa using Ne.symm h3
  simp [e1, e2, e3, h1, h2, h3]
def keyS : Spec := fun args H Q => match args, H with
  | [.str a, .int .u64 n], [] => Need (0 ≤ n ∧ n < 18446744073709551616 ∧ a.length < 1000) (Q (.str (a ++ beb n.toNat 8)) [])
  | _, _ => False
theorem key_c : Meets Tryd.prog [] 38 keyS := by
  refine meets_of Γok Tryd.func38 rfl ?_
  intro args H Q h
  unfold keyS at h
  split at h
  case h_2 => exact h.elim
  rename_i a n
  obtain ⟨⟨h0, h1, h2⟩, h⟩ := h
  (refine sx_sound Γok _ ?_; conv => whnf)
  refine CallVC.autoW _ (Weak.wr 0 5 rfl) rawOk_k (Need.mk (by omega) ⟨[], rfl, rfl, by simp, ?_⟩)
  (conv => whnf)
  refine CallVC.auto numOk_k (Need.mk ⟨h0, h1⟩ ⟨_, rfl, rfl, by simp; omega, ?_⟩)
  (conv => whnf)
  refine CallVC.auto bytes_k ⟨_, rfl, rfl, by simp [beb_length]; omega, ?_⟩
  (conv => whnf)
  refine ⟨_, _, WeakV.drop (congrArg SV.str ?_), h⟩
  simp
theorem key_k : Contract Tryd.prog [] 38 keyS := ⟨⟨⟨_, rfl, rfl, rfl⟩⟩, key_c⟩
def skeyS (c : UInt8) : Spec := fun args H Q => match args, H with
  | [.int .u64 n], [] => Need (0 ≤ n ∧ n < 18446744073709551616) (Q (.str (c :: beb n.toNat 8)) [])
  | _, _ => False
theorem sent_c : Meets Tryd.prog [] 20 (skeyS 99) := by
  refine meets_of Γok Tryd.func20 rfl ?_
  intro args H Q h
  unfold skeyS at h
  split at h
  case h_2 => exact h.elim
  obtain ⟨⟨h0, h1⟩, h⟩ := h
  (refine sx_sound Γok _ ?_; conv => whnf)
  refine CallVC.auto key_k (Need.mk ⟨h0, h1, by simp⟩ ?_)
  (conv => whnf)
  exact ⟨_, _, WeakV.drop rfl, h⟩
theorem sent_k : Contract Tryd.prog [] 20 (skeyS 99) := ⟨⟨⟨_, rfl, rfl, rfl⟩⟩, sent_c⟩
/-- Whether a text is a key. -/
def isKey (k : List UInt8) : Bool := decide (k.length = 9 ∧ (k.getD 0 0 = 99 ∨ k.getD 0 0 = 114 ∨ k.getD 0 0 = 97))
def seqS : Spec := fun args H Q => match args, H with
  | [.str k], [] => Need (k.length < 1000000) (∀ (n : Nat) (b : Bool), b = isKey k → n = (if isKey k then bev (k.drop 1) else 0) → Q (.tuple [.int .u64 (n : Int), .bool b]) [])
  | _, _ => False
theorem seq_c : Meets Tryd.prog [] 19 seqS := by
  refine meets_of Γok Tryd.func19 rfl ?_
  intro args H Q h
  unfold seqS at h
  split at h
  case h_2 => exact h.elim
  rename_i k
  obtain ⟨hk, h⟩ := h
  have bad : isKey k = false → Q (.tuple [.int .u64 0, .bool false]) [] := fun h0 => by
    have := h 0 false h0.symm (by rw [h0]; rfl)
    exact this
  (refine sx_sound Γok _ ?_; conv => whnf)
  refine Both.dec_not (fun h0 => ?_) (fun h0 => ?_)
  · (conv => whnf)
    (repeat (first | (exact Out.same; conv => whnf) | (exact Out1.same; conv => whnf) | (refine QAnd.mk ?_ ?_; conv => whnf) | (apply QStepH.go; conv => whnf) | (refine Both.lit_true ?_; conv => whnf) | (refine Both.lit_false ?_; conv => whnf) | (apply QStep.go; conv => whnf) | (refine Need.mk ?_ ?_; (focus (first | omega | exact ⟨by omega, by omega⟩ | rfl | exact ⟨rfl, rfl⟩ | exact ⟨rfl, by omega, by omega⟩ | exact ⟨by omega, by omega, by omega⟩ | exact ⟨rfl, Nat.le_of_ble_eq_true rfl⟩ | exact Nat.le_of_ble_eq_true rfl | (refine ⟨rfl, rfl, ?_⟩; simp [isFar, ofV0, CV.up, SV.renL, SV.ren] <;> fail) | (refine ⟨rfl, Nat.le_of_ble_eq_true rfl, ?_⟩; simp [isFar, ofV0, CV.up, SV.renL, SV.ren] <;> fail) | (simp only [List.length_append, List.length_drop, List.length_take, List.length_replicate, List.length_map]; omega) | (simp <;> fail))); conv => whnf) | (refine ⟨_, rfl, ?_⟩; conv => whnf)))
    exact ⟨_, _, WeakV.drop rfl, bad (decide_eq_false (by omega))⟩
  (conv => whnf)
  have h9 : k.length = 9 := by omega
  obtain ⟨b, k2, rfl⟩ : ∃ b k2, k = b :: k2 := by
    cases k with
    | nil => simp at h9
    | cons b k2 => exact ⟨b, k2, rfl⟩
  have hk2 : k2.length = 8 := by simpa using h9
  have hn1 : (1 : Int) ≤ ((b :: k2).length : Int) := by rw [h0]; decide
  (repeat (first | (refine Need.mk ⟨by omega, by omega, hn1⟩ ?_; conv => whnf) | (refine CallVC.auto con1_k (Need.mk (by decide) ?_); conv => whnf) | (exact Out.same; conv => whnf) | (exact Out1.same; conv => whnf) | (refine QAnd.mk ?_ ?_; conv => whnf) | (apply QStepH.go; conv => whnf) | (refine Both.lit_true ?_; conv => whnf) | (refine Both.lit_false ?_; conv => whnf) | (apply QStep.go; conv => whnf) | (refine Need.mk ?_ ?_; (focus (first | omega | exact ⟨by omega, by omega⟩ | rfl | exact ⟨rfl, rfl⟩ | exact ⟨rfl, by omega, by omega⟩ | exact ⟨by omega, by omega, by omega⟩ | exact ⟨rfl, Nat.le_of_ble_eq_true rfl⟩ | exact Nat.le_of_ble_eq_true rfl | (refine ⟨rfl, rfl, ?_⟩; simp [isFar, ofV0, CV.up, SV.renL, SV.ren] <;> fail) | (refine ⟨rfl, Nat.le_of_ble_eq_true rfl, ?_⟩; simp [isFar, ofV0, CV.up, SV.renL, SV.ren] <;> fail) | (simp only [List.length_append, List.length_drop, List.length_take, List.length_replicate, List.length_map]; omega) | (simp <;> fail))); conv => whnf) | (refine ⟨_, rfl, ?_⟩; conv => whnf)))
  have hcra : (0 ≤ Lib.indexByte [99, 114, 97] b) ↔ (b = 99 ∨ b = 114 ∨ b = 97) := by
    exact decide_eq_decide.1 (cra b)
  have hkk : isKey (b :: k2) = decide (b = 99 ∨ b = 114 ∨ b = 97) := by
    unfold isKey
    simp [hk2]
  refine Both.dec_not (fun h1 => ?_) (fun h1 => ?_)
  · (conv => whnf)
    (repeat (first | (exact Out.same; conv => whnf) | (exact Out1.same; conv => whnf) | (refine QAnd.mk ?_ ?_; conv => whnf) | (apply QStepH.go; conv => whnf) | (refine Both.lit_true ?_; conv => whnf) | (refine Both.lit_false ?_; conv => whnf) | (apply QStep.go; conv => whnf) | (refine Need.mk ?_ ?_; (focus (first | omega | exact ⟨by omega, by omega⟩ | rfl | exact ⟨rfl, rfl⟩ | exact ⟨rfl, by omega, by omega⟩ | exact ⟨by omega, by omega, by omega⟩ | exact ⟨rfl, Nat.le_of_ble_eq_true rfl⟩ | exact Nat.le_of_ble_eq_true rfl | (refine ⟨rfl, rfl, ?_⟩; simp [isFar, ofV0, CV.up, SV.renL, SV.ren] <;> fail) | (refine ⟨rfl, Nat.le_of_ble_eq_true rfl, ?_⟩; simp [isFar, ofV0, CV.up, SV.renL, SV.ren] <;> fail) | (simp only [List.length_append, List.length_drop, List.length_take, List.length_replicate, List.length_map]; omega) | (simp <;> fail))); conv => whnf) | (refine ⟨_, rfl, ?_⟩; conv => whnf)))
    refine ⟨_, _, WeakV.drop rfl, bad ?_⟩
    rw [hkk]
    exact decide_eq_false (fun h2 => h1 (hcra.2 h2))
  · have hkt : isKey (b :: k2) = true := by
      rw [hkk]
      exact decide_eq_true (hcra.1 h1)
    (conv => whnf)
    (repeat (first | (refine Need.mk ⟨by omega, hn1, by omega⟩ ?_; conv => whnf) | (exact Out.same; conv => whnf) | (exact Out1.same; conv => whnf) | (refine QAnd.mk ?_ ?_; conv => whnf) | (apply QStepH.go; conv => whnf) | (refine Both.lit_true ?_; conv => whnf) | (refine Both.lit_false ?_; conv => whnf) | (apply QStep.go; conv => whnf) | (refine Need.mk ?_ ?_; (focus (first | omega | exact ⟨by omega, by omega⟩ | rfl | exact ⟨rfl, rfl⟩ | exact ⟨rfl, by omega, by omega⟩ | exact ⟨by omega, by omega, by omega⟩ | exact ⟨rfl, Nat.le_of_ble_eq_true rfl⟩ | exact Nat.le_of_ble_eq_true rfl | (refine ⟨rfl, rfl, ?_⟩; simp [isFar, ofV0, CV.up, SV.renL, SV.ren] <;> fail) | (refine ⟨rfl, Nat.le_of_ble_eq_true rfl, ?_⟩; simp [isFar, ofV0, CV.up, SV.renL, SV.ren] <;> fail) | (simp only [List.length_append, List.length_drop, List.length_take, List.length_replicate, List.length_map]; omega) | (simp <;> fail))); conv => whnf) | (refine ⟨_, rfl, ?_⟩; conv => whnf)))
    obtain ⟨t, ht⟩ : ∃ t, t = List.drop (Int.toNat 1) (List.take (((b :: k2).length : Int)).toNat (b :: k2)) := ⟨_, rfl⟩
    have htk : t = k2 := by rw [ht]; simp
    generalize List.drop (Int.toNat 1) (List.take (((b :: k2).length : Int)).toNat (b :: k2)) = t1 at ht ⊢
    subst ht
    subst htk
    (repeat (first | (exact Out.same; conv => whnf) | (exact Out1.same; conv => whnf) | (refine QAnd.mk ?_ ?_; conv => whnf) | (apply QStepH.go; conv => whnf) | (refine Both.lit_true ?_; conv => whnf) | (refine Both.lit_false ?_; conv => whnf) | (apply QStep.go; conv => whnf) | (refine Need.mk ?_ ?_; (focus (first | omega | exact ⟨by omega, by omega⟩ | rfl | exact ⟨rfl, rfl⟩ | exact ⟨rfl, by omega, by omega⟩ | exact ⟨by omega, by omega, by omega⟩ | exact ⟨rfl, Nat.le_of_ble_eq_true rfl⟩ | exact Nat.le_of_ble_eq_true rfl | (refine ⟨rfl, rfl, ?_⟩; simp [isFar, ofV0, CV.up, SV.renL, SV.ren] <;> fail) | (refine ⟨rfl, Nat.le_of_ble_eq_true rfl, ?_⟩; simp [isFar, ofV0, CV.up, SV.renL, SV.ren] <;> fail) | (simp only [List.length_append, List.length_drop, List.length_take, List.length_replicate, List.length_map]; omega) | (simp <;> fail))); conv => whnf) | (refine ⟨_, rfl, ?_⟩; conv => whnf) | (refine CallVC.auto rnew_k ?_; conv => whnf)))
    refine CallVC.auto rnum_k (Need.mk (by omega) ?_)
    (conv => whnf)
    have hok : rdOk 0 8 t = true := decide_eq_true ⟨rfl, by omega, by omega⟩
    have hrv : rdV 0 8 t = bev t := by
      rw [rdV, rdT, if_pos hok, List.take_of_length_le (by omega)]
    have h2 := h (rdV 0 8 t) true hkt.symm (by rw [hkt, hrv]; rfl)
    refine ⟨_, _, WeakV.drop rfl, h2⟩
theorem seq_k : Contract Tryd.prog [] 19 seqS := ⟨⟨⟨_, rfl, rfl, rfl⟩⟩, seq_c⟩
def rkeyS : Spec := fun args H Q => match args, H with
  | [.str a, .int .u64 n], [] => Need (0 ≤ n ∧ n < 18446744073709551616 ∧ a.length < 1000) (Q (.str (a ++ beb n.toNat 8)) [])
  | _, _ => False
def trueS : Spec := fun args H Q => match args, H with
  | [], [] => Q (.bool true) []
  | _, _ => False
theorem awake_c : Meets Tryd.prog [] 4 trueS := by
  refine meets_of Γok Tryd.func4 rfl ?_
  intro args H Q h
  unfold trueS at h
  split at h
  case h_2 => exact h.elim
  (refine sx_sound Γok _ ?_; conv => whnf)
  refine CallVC.auto sent_k (Need.mk (by decide) ?_)
  (conv => whnf)
  refine CallVC.auto seq_k (Need.mk (by decide) ?_)
  intro n b hb hn
  obtain rfl : b = true := by rw [hb]; decide +kernel
  obtain rfl : n = 258 := by rw [hn]; decide +kernel
  (conv => whnf)
  refine CallVC.auto sent_k (Need.mk (by decide) ?_)
  (conv => whnf)
  refine Both.sure (by decide +kernel) ?_
  (conv => whnf)
  (repeat (first | (exact Out.same; conv => whnf) | (exact Out1.same; conv => whnf) | (refine QAnd.mk ?_ ?_; conv => whnf) | (apply QStepH.go; conv => whnf) | (refine Both.lit_true ?_; conv => whnf) | (refine Both.lit_false ?_; conv => whnf) | (apply QStep.go; conv => whnf) | (refine Need.mk ?_ ?_; (focus (first | omega | exact ⟨by omega, by omega⟩ | rfl | exact ⟨rfl, rfl⟩ | exact ⟨rfl, by omega, by omega⟩ | exact ⟨by omega, by omega, by omega⟩ | exact ⟨rfl, Nat.le_of_ble_eq_true rfl⟩ | exact Nat.le_of_ble_eq_true rfl | (refine ⟨rfl, rfl, ?_⟩; simp [isFar, ofV0, CV.up, SV.renL, SV.ren] <;> fail) | (refine ⟨rfl, Nat.le_of_ble_eq_true rfl, ?_⟩; simp [isFar, ofV0, CV.up, SV.renL, SV.ren] <;> fail) | (simp only [List.length_append, List.length_drop, List.length_take, List.length_replicate, List.length_map]; omega) | (simp <;> fail))); conv => whnf) | (refine ⟨_, rfl, ?_⟩; conv => whnf)))
  refine CallVC.auto pcheck_k ?_
  (conv => whnf)
  intro e he
  obtain rfl : e = 1 := by rw [he]; decide +kernel
  (conv => whnf)
  (repeat (first | (exact Out.same; conv => whnf) | (exact Out1.same; conv => whnf) | (refine QAnd.mk ?_ ?_; conv => whnf) | (apply QStepH.go; conv => whnf) | (refine Both.lit_true ?_; conv => whnf) | (refine Both.lit_false ?_; conv => whnf) | (apply QStep.go; conv => whnf) | (refine Need.mk ?_ ?_; (focus (first | omega | exact ⟨by omega, by omega⟩ | rfl | exact ⟨rfl, rfl⟩ | exact ⟨rfl, by omega, by omega⟩ | exact ⟨by omega, by omega, by omega⟩ | exact ⟨rfl, Nat.le_of_ble_eq_true rfl⟩ | exact Nat.le_of_ble_eq_true rfl | (refine ⟨rfl, rfl, ?_⟩; simp [isFar, ofV0, CV.up, SV.renL, SV.ren] <;> fail) | (refine ⟨rfl, Nat.le_of_ble_eq_true rfl, ?_⟩; simp [isFar, ofV0, CV.up, SV.renL, SV.ren] <;> fail) | (simp only [List.length_append, List.length_drop, List.length_take, List.length_replicate, List.length_map]; omega) | (simp <;> fail))); conv => whnf) | (refine ⟨_, rfl, ?_⟩; conv => whnf)))
  exact ⟨_, _, WeakV.drop rfl, h⟩
theorem awake_k : Contract Tryd.prog [] 4 trueS := ⟨⟨⟨_, rfl, rfl, rfl⟩⟩, awake_c⟩
end Go.LX
end
section
set_option maxRecDepth 100000
set_option maxHeartbeats 4000000
set_option autoImplicit false
set_option linter.unusedVariables false
set_option linter.unusedSimpArgs false
namespace Go.LX
open Go.Proofs

/-! ## The document's reader -/
theorem mul_u64 (n : Nat) (b : UInt8) (h : n * 256 + 256 ≤ 18446744073709551616) : IntKind.u64.wrap (IntKind.u64.wrap ((n : Int) * 256) + IntKind.u64.wrap (b.toNat : Int)) = ((n * 256 + b.toNat : Nat) : Int) := by
  have hb := b.toNat_lt
  rw [wrap_u64 (n := (n : Int) * 256) (by omega) (by omega), wrap_u64 (n := (b.toNat : Int)) (by omega) (by omega), wrap_u64 (by omega) (by omega)]
  omega
theorem getD_str (l : List UInt8) {k : Nat} (h : k < l.length) : l.getD ((k : Nat) : Int).toNat 0 = l[k] := by
  rw [Int.toNat_natCast, List.getD_eq_getElem?_getD, List.getElem?_eq_getElem h]
  rfl
def valS : Spec := fun args H Q => match args, H with
  | [.str s], [] => Need (s.length ≤ 8) (Q (.int .u64 (bev s : Int)) [])
  | _, _ => False
end Go.LX
end
section
set_option maxRecDepth 100000
set_option maxHeartbeats 4000000
set_option autoImplicit false
set_option linter.unusedVariables false
set_option linter.unusedSimpArgs false
namespace Go.LX
open Go.Proofs

/-! ## Numbers as bytes -/
theorem bev_fold (l : List UInt8) : ∀ a : Nat, l.foldl (fun n b => n * 256 + b.toNat) a = a * 256 ^ l.length + bev l := by
  induction l with
  | nil => intro a; simp [bev]
  | cons b l ih =>
    intro a
    have h0 : bev (b :: l) = b.toNat * 256 ^ l.length + bev l := by
      show List.foldl _ (0 * 256 + b.toNat) l = _
      rw [ih, Nat.zero_mul, Nat.zero_add]
    rw [List.foldl_cons, ih, h0, List.length_cons, Nat.pow_succ, Nat.add_mul, Nat.mul_comm (256 ^ l.length) 256, Nat.mul_assoc, Nat.add_assoc]
theorem bev_cons (b : UInt8) (l : List UInt8) : bev (b :: l) = b.toNat * 256 ^ l.length + bev l := by
  show List.foldl _ (0 * 256 + b.toNat) l = _
  rw [bev_fold, Nat.zero_mul, Nat.zero_add]
theorem bev_beb : ∀ (k v : Nat), v < 256 ^ k → bev (beb v k) = v
  | 0, v, h => by simp at h; subst h; rfl
  | k + 1, v, h => by
    have hb : beb v (k + 1) = UInt8.ofNat (v / 256 ^ k) :: beb (v % 256 ^ k) k := by
      rw [beb]
      congr 1
      have gen : ∀ j, j ≤ k → beb v j = beb (v % 256 ^ k) j := by
        intro j
        induction j with
        | zero => intro _; rfl
        | succ j ih =>
          intro hj
          rw [beb, beb, ih (by omega)]
          congr 1
          obtain ⟨d, rfl⟩ : ∃ d, k = j + 1 + d := ⟨k - (j + 1), by omega⟩
          have h1 : v % 256 ^ (j + 1 + d) / 256 ^ j = v / 256 ^ j % 256 ^ (d + 1) := by
            rw [show j + 1 + d = j + (d + 1) by omega, Nat.pow_add, Nat.mod_mul_right_div_self]
          rw [h1]
          have h2 : v / 256 ^ j % 256 ^ (d + 1) % 256 = v / 256 ^ j % 256 := by
            rw [Nat.mod_mod_of_dvd]
            exact ⟨256 ^ d, by rw [Nat.pow_succ, Nat.mul_comm]⟩
          apply UInt8.toNat_inj.1
          simp only [UInt8.toNat_ofNat']
          exact h2.symm
      exact gen k (Nat.le_refl k)
    have hlt : v / 256 ^ k < 256 := by
      rw [Nat.div_lt_iff_lt_mul (by exact Nat.pow_pos (by omega))]
      rw [Nat.pow_succ] at h
      omega
    rw [hb, bev_cons, beb_length, bev_beb k _ (Nat.mod_lt _ (Nat.pow_pos (by omega)))]
    simp only [UInt8.toNat_ofNat']
    rw [Nat.mod_eq_of_lt (show v / 256 ^ k < 2 ^ 8 by omega), Nat.mul_comm]
    exact Nat.div_add_mod v (256 ^ k)
theorem rd_app (n : Int) (a b : List UInt8) (h : n = a.length) : rdT 0 n (a ++ b) = a ∧ rdE 0 n (a ++ b) = 0 ∧ rdS 0 n (a ++ b) = b := by
  subst h
  have hok : rdOk 0 (a.length : Int) (a ++ b) = true := decide_eq_true ⟨rfl, by omega, by rw [List.length_append]; omega⟩
  refine ⟨by rw [rdT, if_pos hok, Int.toNat_natCast, List.take_left], ?_, by rw [rdS, if_pos hok, Int.toNat_natCast, List.drop_left]⟩
  unfold rdE
  rw [if_pos rfl, if_pos (by rw [List.length_append]; omega)]
theorem rd_short (n : Int) (t : List UInt8) (h : (t.length : Int) < n) : rdE 0 n t = 6 := by
  unfold rdE
  rw [if_pos rfl, if_neg (by omega)]
theorem bytesLess_bev : ∀ x y : List UInt8, x.length = y.length → Op.bytesLess x y = decide (bev x < bev y)
  | [], [], _ => by simp [Op.bytesLess]
  | a :: x, b :: y, h => by
    have hl : x.length = y.length := by simpa using h
    have ih := bytesLess_bev x y hl
    have hx := bev_lt x
    have hy := bev_lt y
    rw [Op.bytesLess, ih, bev_cons, bev_cons, hl]
    rw [hl] at hx
    generalize 256 ^ y.length = p at hx hy
    rcases Nat.lt_trichotomy a.toNat b.toNat with h1 | h1 | h1
    · have h2 : a < b := UInt8.lt_iff_toNat_lt.2 h1
      have h3 : a.toNat * p + bev x < b.toNat * p + bev y := by
        have : (a.toNat + 1) * p ≤ b.toNat * p := Nat.mul_le_mul_right p h1
        rw [Nat.add_mul] at this
        omega
      simp [h2, h3]
    · have h2 : a = b := UInt8.toNat_inj.1 h1
      subst h2
      have h3 : ¬ a < a := fun h4 => by have := UInt8.lt_iff_toNat_lt.1 h4; omega
      simp [h3]
    · have h2 : ¬ a < b := fun h4 => by have := UInt8.lt_iff_toNat_lt.1 h4; omega
      have h3 : (a == b) = false := by
        rw [beq_eq_false_iff_ne]
        rintro rfl
        omega
      have h4 : ¬ a.toNat * p + bev x < b.toNat * p + bev y := by
        have : (b.toNat + 1) * p ≤ a.toNat * p := Nat.mul_le_mul_right p h1
        rw [Nat.add_mul] at this
        omega
      simp [h2, h3, h4]
  | [], _ :: _, h => by simp at h
  | _ :: _, [], h => by simp at h
theorem less_same (c : UInt8) (x y : List UInt8) : lessS (c :: x) (c :: y) = Op.bytesLess x y := by
  have h3 : ¬ c < c := fun h4 => by have := UInt8.lt_iff_toNat_lt.1 h4; omega
  simp [lessS, Op.bytesLess, h3]
theorem beb_less {a b : Nat} (ha : a < 256 ^ 8) (hb : b < 256 ^ 8) (c : UInt8) : lessS (c :: beb a 8) (c :: beb b 8) = decide (a < b) := by
  rw [less_same, bytesLess_bev _ _ (by rw [beb_length, beb_length]), bev_beb 8 a ha, bev_beb 8 b hb]
theorem beb_inj {k a b : Nat} (ha : a < 256 ^ k) (hb : b < 256 ^ k) (h : beb a k = beb b k) : a = b := by
  rw [← bev_beb k a ha, ← bev_beb k b hb, h]
end Go.LX
end
section
set_option maxRecDepth 100000
set_option maxHeartbeats 4000000
set_option autoImplicit false
set_option linter.unusedVariables false
set_option linter.unusedSimpArgs false
namespace Go.LX
open Go.Proofs

/-! ## What is got, by places -/
theorem nx_ok {t : List UInt8} {p : Nat} {n : Int} {m : Nat} (hn : n = m) (h : p + m ≤ t.length) : nx (0, t.drop p) n = (0, t.drop (p + m)) ∧ rdT 0 n (t.drop p) = (t.drop p).take m := by
  subst hn
  have hok : rdOk 0 (m : Int) (t.drop p) = true := decide_eq_true ⟨rfl, by omega, by rw [List.length_drop]; omega⟩
  refine ⟨?_, by rw [rdT, if_pos hok, Int.toNat_natCast]⟩
  unfold nx
  rw [rdS, if_pos hok, Int.toNat_natCast, List.drop_drop]
  congr 1
  unfold rdE
  rw [if_pos rfl, if_pos (by rw [List.length_drop]; omega)]
theorem nx_bad {t : List UInt8} {p : Nat} {n : Int} (h : (t.length : Int) < p + n) (h2 : p ≤ t.length) : (nx (0, t.drop p) n).1 = 6 := by
  unfold nx rdE
  rw [if_pos rfl, if_neg (by rw [List.length_drop]; omega)]
theorem nx_err {q : Int × List UInt8} {n : Int} (h : q.1 ≠ 0) : nx q n = q := by
  obtain ⟨e, s⟩ := q
  have h0 : rdOk e n s = false := decide_eq_false (fun h1 => h h1.1)
  unfold nx
  have h1 : rdE e n s = e := by unfold rdE; rw [if_neg h]
  have h2 : rdS e n s = s := by unfold rdS; rw [h0]; rfl
  rw [h1, h2]
theorem drop0 (t : List UInt8) : ((0, t) : Int × List UInt8) = (0, t.drop 0) := by rw [List.drop_zero]
theorem pg_short {t : List UInt8} (h : t.length < 19) : (pg5 (0, t)).1 = 6 := by
  have key : (pg4 (0, t)).1 = 6 → (pg5 (0, t)).1 = 6 := fun h1 => by
    unfold pg5
    rw [nx_err (by rw [h1]; decide), h1]
  refine key ?_
  unfold pg4 pg3
  rw [drop0 t]
  by_cases h1 : t.length < 1
  · have e1 := nx_bad (t := t) (p := 0) (n := 1) (by omega) (by omega)
    rw [nx_err (q := nx (0, t.drop 0) 1) (by rw [e1]; decide), nx_err (q := nx (0, t.drop 0) 1) (by rw [e1]; decide), nx_err (q := nx (0, t.drop 0) 1) (by rw [e1]; decide), e1]
  rw [(nx_ok (t := t) (p := 0) (n := 1) (m := 1) rfl (by omega)).1]
  by_cases h2 : t.length < 9
  · have e1 := nx_bad (t := t) (p := 0 + 1) (n := 8) (by omega) (by omega)
    rw [nx_err (q := nx (0, t.drop (0 + 1)) 8) (by rw [e1]; decide), nx_err (q := nx (0, t.drop (0 + 1)) 8) (by rw [e1]; decide), e1]
  rw [(nx_ok (t := t) (p := 0 + 1) (n := 8) (m := 8) rfl (by omega)).1]
  by_cases h3 : t.length < 17
  · have e1 := nx_bad (t := t) (p := 0 + 1 + 8) (n := 8) (by omega) (by omega)
    rw [nx_err (q := nx (0, t.drop (0 + 1 + 8)) 8) (by rw [e1]; decide), e1]
  rw [(nx_ok (t := t) (p := 0 + 1 + 8) (n := 8) (m := 8) rfl (by omega)).1]
  exact nx_bad (by omega) (by omega)
/-- How long the text is. -/
def pnum (t : List UInt8) : Nat := bev ((t.drop 17).take 2)
theorem pg_long {t : List UInt8} (h : 19 ≤ t.length) : pgF (0, t) = (bev ((t.drop 0).take 1) : Int) ∧ pgQ (0, t) = (bev ((t.drop 1).take 8) : Int) ∧ pgT (0, t) = (bev ((t.drop 9).take 8) : Int) ∧ pgN (0, t) = (pnum t : Int) ∧ pg4 (0, t) = (0, t.drop 19) := by
  have a1 := nx_ok (t := t) (p := 0) (n := 1) (m := 1) rfl (by omega)
  have a2 := nx_ok (t := t) (p := 1) (n := 8) (m := 8) rfl (by omega)
  have a3 := nx_ok (t := t) (p := 9) (n := 8) (m := 8) rfl (by omega)
  have a4 := nx_ok (t := t) (p := 17) (n := 2) (m := 2) rfl (by omega)
  have b1 : nx (0, t) 1 = (0, t.drop 1) := by rw [drop0 t, a1.1]
  have b2 : nx (nx (0, t) 1) 8 = (0, t.drop 9) := by rw [b1, a2.1]
  have b3 : pg3 (0, t) = (0, t.drop 17) := by rw [pg3, b2, a3.1]
  have b4 : pg4 (0, t) = (0, t.drop 19) := by rw [pg4, b3, a4.1]
  refine ⟨?_, ?_, ?_, ?_, b4⟩
  · unfold pgF rdV
    have : rdT 0 1 t = (t.drop 0).take 1 := by have := a1.2; rw [List.drop_zero] at this; exact this
    show ((bev (rdT 0 1 t) : Nat) : Int) = _
    rw [this]
  · unfold pgQ rdV
    rw [b1]
    show ((bev (rdT 0 8 (t.drop 1)) : Nat) : Int) = _
    rw [a2.2]
  · unfold pgT rdV
    rw [b2]
    show ((bev (rdT 0 8 (t.drop 9)) : Nat) : Int) = _
    rw [a3.2]
  · unfold pgN rdV
    rw [b3]
    show ((bev (rdT 0 2 (t.drop 17)) : Nat) : Int) = _
    rw [a4.2]
    rfl
theorem pg_long2 {t : List UInt8} (h : 19 + pnum t ≤ t.length) : pgD (0, t) = (t.drop 19).take (pnum t) ∧ pg5 (0, t) = (0, t.drop (19 + pnum t)) := by
  obtain ⟨_, _, _, h4, h5⟩ := pg_long (t := t) (by omega)
  have a := nx_ok (t := t) (p := 19) (n := (pnum t : Int)) (m := pnum t) rfl h
  refine ⟨?_, ?_⟩
  · unfold pgD
    rw [h4, h5]
    exact a.2
  · unfold pg5
    rw [h4, h5]
    exact a.1
theorem pg_short2 {t : List UInt8} (h : 19 ≤ t.length) (h2 : t.length < 19 + pnum t) : (pg5 (0, t)).1 = 6 := by
  obtain ⟨_, _, _, h4, h5⟩ := pg_long h
  unfold pg5
  rw [h4, h5]
  exact nx_bad (by omega) h
theorem pgE_short {t : List UInt8} (h : (pg5 (0, t)).1 = 6) : pgE (0, t) = 6 := by
  unfold pgE
  rw [h]
  split <;> rfl
/-! ## A packet's bytes are got -/
theorem pb_parts (f s t : Int) (d m : List UInt8) : let T := pbytes f s t d ++ m
    (T.drop 0).take 1 = beb f.toNat 1 ∧ (T.drop 1).take 8 = beb s.toNat 8 ∧ (T.drop 9).take 8 = beb t.toNat 8 ∧ (T.drop 17).take 2 = beb d.length 2 ∧ (T.drop 19).take d.length = d ∧ T.drop (19 + d.length) = m := by
  intro T
  have hT : T = beb f.toNat 1 ++ (beb s.toNat 8 ++ (beb t.toNat 8 ++ (beb d.length 2 ++ (d ++ m)))) := by
    show pbytes f s t d ++ m = _
    unfold pbytes
    simp only [List.append_assoc]
  have d1 : T.drop 1 = beb s.toNat 8 ++ (beb t.toNat 8 ++ (beb d.length 2 ++ (d ++ m))) := by rw [hT]; exact List.drop_left' (beb_length _ _)
  have d9 : T.drop 9 = beb t.toNat 8 ++ (beb d.length 2 ++ (d ++ m)) := by
    rw [show (9 : Nat) = 1 + 8 from rfl, ← List.drop_drop, d1]
    exact List.drop_left' (beb_length _ _)
  have d17 : T.drop 17 = beb d.length 2 ++ (d ++ m) := by
    rw [show (17 : Nat) = 9 + 8 from rfl, ← List.drop_drop, d9]
    exact List.drop_left' (beb_length _ _)
  have d19 : T.drop 19 = d ++ m := by
    rw [show (19 : Nat) = 17 + 2 from rfl, ← List.drop_drop, d17]
    exact List.drop_left' (beb_length _ _)
  refine ⟨?_, ?_, ?_, ?_, ?_, ?_⟩
  · rw [List.drop_zero, hT]; exact List.take_left' (beb_length _ _)
  · rw [d1]; exact List.take_left' (beb_length _ _)
  · rw [d9]; exact List.take_left' (beb_length _ _)
  · rw [d17]; exact List.take_left' (beb_length _ _)
  · rw [d19, List.take_left]
  · rw [← List.drop_drop, d19, List.drop_left]
/-- A whole packet, and more. -/
theorem pb_get {f s t : Int} {d : List UInt8} (m : List UInt8) (hp : pok f s t d = true) (hs : 0 ≤ s ∧ s < 18446744073709551616) (ht : 0 ≤ t ∧ t < 18446744073709551616) :
    pgE (0, pbytes f s t d ++ m) = 0 ∧ pgF (0, pbytes f s t d ++ m) = f ∧ pgQ (0, pbytes f s t d ++ m) = s ∧ pgT (0, pbytes f s t d ++ m) = t ∧ pgD (0, pbytes f s t d ++ m) = d ∧ (pg5 (0, pbytes f s t d ++ m)).2 = m := by
  have hp2 : (0 ≤ f ∧ f ≤ 1) ∧ d.length ≤ 64 := by
    simp [pok] at hp
    omega
  obtain ⟨p1, p2, p3, p4, p5, p6⟩ := pb_parts f s t d m
  have hlen : (pbytes f s t d ++ m).length = 19 + d.length + m.length := by rw [List.length_append, pbytes_len]
  obtain ⟨g1, g2, g3, g4, g5⟩ := pg_long (t := pbytes f s t d ++ m) (by omega)
  have hpn : pnum (pbytes f s t d ++ m) = d.length := by
    rw [pnum, p4, bev_beb 2 _ (by omega)]
  obtain ⟨g6, g7⟩ := pg_long2 (t := pbytes f s t d ++ m) (by rw [hpn]; omega)
  rw [p1, bev_beb 1 _ (by omega)] at g1
  rw [p2, bev_beb 8 _ (by omega)] at g2
  rw [p3, bev_beb 8 _ (by omega)] at g3
  rw [hpn, p5] at g6
  rw [hpn, p6] at g7
  have f1 : pgF (0, pbytes f s t d ++ m) = f := by rw [g1]; omega
  have f2 : pgQ (0, pbytes f s t d ++ m) = s := by rw [g2]; omega
  have f3 : pgT (0, pbytes f s t d ++ m) = t := by rw [g3]; omega
  refine ⟨?_, f1, f2, f3, g6, by rw [g7]⟩
  unfold pgE
  rw [f1, f2, f3, g6, hp, g7]
  rfl
/-- A packet, cut short. -/
theorem pb_cut {f s t : Int} {d : List UInt8} {c : Nat} (hc : c < (pbytes f s t d).length) (hd : d.length ≤ 64) : pgE (0, (pbytes f s t d).take c) = 6 := by
  refine pgE_short ?_
  have hl : ((pbytes f s t d).take c).length = c := by rw [List.length_take]; omega
  rw [pbytes_len] at hc
  rcases Nat.lt_or_ge c 19 with h | h
  · exact pg_short (by omega)
  · refine pg_short2 (by omega) ?_
    obtain ⟨_, _, _, p4, _, _⟩ := pb_parts f s t d []
    rw [List.append_nil] at p4
    have : pnum ((pbytes f s t d).take c) = d.length := by
      rw [pnum, List.drop_take, List.take_take, Nat.min_eq_left (by omega), p4, bev_beb 2 _ (by omega)]
    omega
end Go.LX
end
section
set_option maxRecDepth 100000
set_option maxHeartbeats 4000000
set_option autoImplicit false
set_option linter.unusedVariables false
set_option linter.unusedSimpArgs false
namespace Go.LX
open Go.Proofs

def bytesAS : Spec := fun args H Q => match args, H with
  | [.ptr 0 0], [.cells [.int .i64 e, .opt 0 1, .own 1] 34, .own 5 1 m xs true] => ∃ l : List UInt8, xs = bys l ∧ m = l.length ∧ l.length < 1000000000 ∧
    ∀ s, s = (if e = 0 then l else []) → Q (.tuple [.str s, .int .i64 e]) [.cells [.int .i64 e, .opt 0 1, .own 1] 34, .gone]
  | _, _ => False
theorem bytesA_k : Contract Tryd.prog [] 7 bytesAS := bytes_k.imp fun args H Q h => by
  unfold bytesAS at h
  split at h
  case h_2 => exact h.elim
  obtain ⟨l, rfl, rfl, hl, h⟩ := h
  exact ⟨l, rfl, rfl, hl, h _ rfl⟩
def pbyS : Spec := fun args H Q => match args, H with
  | [.agg [.int .i64 f, .int .u64 s, .int .u64 t, .str d]], [] => Need ((0 ≤ s ∧ s < 18446744073709551616) ∧ 0 ≤ t ∧ t < 18446744073709551616)
    (∀ s' e', e' = okE (pok f s t d) → s' = pmore f s t d → Q (.tuple [.str s', .int .i64 e']) [])
  | _, _ => False
theorem pby_c : Meets Tryd.prog [] 13 pbyS := by
  refine meets_of Γok Tryd.func13 rfl ?_
  intro args H Q h
  unfold pbyS at h
  split at h
  case h_2 => exact h.elim
  rename_i f s t d
  obtain ⟨hh, h⟩ := h
  have hpl := pmore_len f s t d
  (refine sx_sound Γok _ ?_; conv => whnf)
  (repeat (first | (exact Out.same; conv => whnf) | (exact Out1.same; conv => whnf) | (refine QAnd.mk ?_ ?_; conv => whnf) | (apply QStepH.go; conv => whnf) | (refine Both.lit_true ?_; conv => whnf) | (refine Both.lit_false ?_; conv => whnf) | (apply QStep.go; conv => whnf) | (refine Need.mk ?_ ?_; (focus (first | omega | exact ⟨by omega, by omega⟩ | rfl | exact ⟨rfl, rfl⟩ | exact ⟨rfl, by omega, by omega⟩ | exact ⟨by omega, by omega, by omega⟩ | exact ⟨rfl, Nat.le_of_ble_eq_true rfl⟩ | exact Nat.le_of_ble_eq_true rfl | (refine ⟨rfl, rfl, ?_⟩; simp [isFar, ofV0, CV.up, SV.renL, SV.ren] <;> fail) | (refine ⟨rfl, Nat.le_of_ble_eq_true rfl, ?_⟩; simp [isFar, ofV0, CV.up, SV.renL, SV.ren] <;> fail) | (simp only [List.length_append, List.length_drop, List.length_take, List.length_replicate, List.length_map]; omega) | (simp <;> fail))); conv => whnf) | (refine ⟨_, rfl, ?_⟩; conv => whnf)))
  refine CallVC.autoW _ (Weak.wr 1 5 rfl) pput_k (Need.mk hh ⟨[], rfl, rfl, by simp, ?_⟩)
  intro e' l' he hl
  (conv => whnf)
  refine CallVC.auto bytesA_k ⟨_, rfl, rfl, by rw [hl]; simp; omega, ?_⟩
  intro s' hs'
  (conv => whnf)
  refine ⟨_, _, WeakV.drop rfl, h s' e' ?_ ?_⟩
  · rw [he]
    cases pok f s t d <;> rfl
  · rw [hs', he, hl]
    cases hp : pok f s t d
    · simp [errOf, pmore, hp]
    · simp
theorem pby_k : Contract Tryd.prog [] 13 pbyS := ⟨⟨⟨_, rfl, rfl, rfl⟩⟩, pby_c⟩
def parseS : Spec := fun args H Q => match args, H with
  | [.str t], [] => Need (t.length < 1000000) (∀ (f u v e : Int) (d : List UInt8), e = rdEnd (pgE (0, t)) (pg5 (0, t)).2 →
      ((e = 0 ∧ f = pgF (0, t) ∧ u = pgQ (0, t) ∧ v = pgT (0, t) ∧ d = pgD (0, t)) ∨ (e ≠ 0 ∧ f = 0 ∧ u = 0 ∧ v = 0 ∧ d = [])) → Q (.tuple [.agg [.int .i64 f, .int .u64 u, .int .u64 v, .str d], .int .i64 e]) [])
  | _, _ => False
def lawPISS : Spec := fun args H Q => match args, H with
  | [.agg [.int .i64 f, .int .u64 s, .int .u64 t, .str d], .int .i64 c, .str m], [] => (0 ≤ s ∧ s < 18446744073709551616) ∧ (0 ≤ t ∧ t < 18446744073709551616) ∧ Q (.bool true) []
  | _, _ => False
end Go.LX
end
section
set_option maxRecDepth 100000
set_option maxHeartbeats 4000000
set_option autoImplicit false
set_option linter.unusedVariables false
set_option linter.unusedSimpArgs false
namespace Go.LX
open Go.Proofs

theorem u64_rng (r : BitVec 64) : 0 ≤ u64 r ∧ u64 r < 18446744073709551616 := by
  have := r.isLt
  unfold u64
  omega
theorem open_packet {H : Type} {enc : TypeId × Value → H} {W : World} {v : Value} {d : DataW H} {ps : List MemPlace} {b0 : Nat} (hval : Value.okWide Tryd.prog W .any b0 24 v) (h : DataW.Trod enc Tryd.prog W 0 (fun _ => true) true 24 v d ps) (hw : InReach Tryd.prog 24 d) :
    ∃ p : Pkt, VR (E0 W) W (.agg [.int .i64 p.f, .int .u64 (u64 p.s), .int .u64 (u64 p.t), .str p.d]) v ∧ p.ok := by
  obtain ⟨cs, rfl, hsz⟩ := WideShapes.okWide_struct Tryd.underlying24 hval
  obtain ⟨fuel, hf⟩ := h
  have hcl : (Value.agg cs).cells = cs := rfl
  rw [hcl] at hf
  obtain ⟨hl, hf⟩ := open_fields (t := 24) Tryd.underlying24 (by kernel_rfl) (by
    intro j f hf
    match j with
    | 0 => cases hf; exact ⟨by kernel_rfl, rfl⟩
    | 1 => cases hf; exact ⟨by kernel_rfl, rfl⟩
    | 2 => cases hf; exact ⟨by kernel_rfl, rfl⟩
    | 3 => cases hf; exact ⟨by kernel_rfl, rfl⟩
    | j + 4 => cases hf) hf hw
  obtain ⟨n0, c0, y0, e0, t0, q0⟩ := hf 0 _ rfl
  obtain ⟨n1, c1, y1, e1, t1, q1⟩ := hf 1 _ rfl
  obtain ⟨n2, c2, y2, e2, t2, q2⟩ := hf 2 _ rfl
  obtain ⟨n3, c3, y3, e3, t3, q3⟩ := hf 3 _ rfl
  obtain ⟨i0, rfl, w0⟩ := leaf_int Tryd.underlying3 t0
  obtain ⟨i1, rfl, w1⟩ := leaf_int Tryd.underlying22 t1
  obtain ⟨i2, rfl, w2⟩ := leaf_int Tryd.underlying22 t2
  obtain ⟨s3, rfl, w3⟩ := leaf_str Tryd.underlying9 t3 q3
  obtain ⟨b1, rfl⟩ := wf_u64 w1
  obtain ⟨b2, rfl⟩ := wf_u64 w2
  refine ⟨⟨i0, b1, b2, s3⟩, vr_agg (l := [.int .i64 i0, .int .u64 (u64 b1), .int .u64 (u64 b2), .str s3]) ⟨hl, fun j x u hx hu => ?_⟩, wf_i64 w0, w3⟩
  match j with
  | 0 => cases hx; rw [e0] at hu; cases hu; exact .int _ _
  | 1 => cases hx; rw [e1] at hu; cases hu; exact .int _ _
  | 2 => cases hx; rw [e2] at hu; cases hu; exact .int _ _
  | 3 => cases hx; rw [e3] at hu; cases hu; exact .str _
  | j + 4 => cases hx
end Go.LX
end
section
set_option maxRecDepth 100000
set_option maxHeartbeats 2000000
set_option autoImplicit false
set_option linter.unusedVariables false
set_option linter.unusedSimpArgs false
namespace Go.LX
open Go.Proofs

/-! ## A packet's digests -/
theorem pok_out {f s t : Int} {d : List UInt8} (h : pok f s t d = true) : 0 ≤ f ∧ f ≤ 1 ∧ s ≠ 0 ∧ t ≠ 0 ∧ d.length ≤ 64 := of_decide_eq_true h
theorem pmore_ok {f s t : Int} {d : List UInt8} (h : pok f s t d = true) : pmore f s t d = pbytes f s t d := by unfold pmore; rw [if_pos h]
def bd64 (n : Int) : Prop := 0 ≤ n ∧ n < 18446744073709551616
def pbyOkS : Spec := fun args H Q => match args, H with
  | [.agg [.int .i64 f, .int .u64 s, .int .u64 t, .str d]], [] => pok f s t d = true ∧ bd64 s ∧ bd64 t ∧ Q (.tuple [.str (pbytes f s t d), .int .i64 0]) []
  | _, _ => False
theorem pbyOk_k : Contract Tryd.prog [] 13 pbyOkS := pby_k.imp fun args H Q h => by
  unfold pbyOkS at h
  split at h
  case h_2 => exact h.elim
  obtain ⟨hp, hs, ht, h⟩ := h
  refine ⟨⟨hs, ht⟩, fun s' e' he hs' => ?_⟩
  rw [hp] at he
  rw [pmore_ok hp] at hs'
  rw [he, hs']
  exact h
def pdigS : Spec := fun args H Q => match args, H with
  | [.agg [.int .i64 f, .int .u64 s, .int .u64 t, .str d], .nilsl], [] => pok f s t d = true ∧ bd64 s ∧ bd64 t ∧ Q (.str (shaD (pbytes f s t d))) []
  | [.agg [.int .i64 f, .int .u64 s, .int .u64 t, .str d], .sl 1 1 [.str x] true], [] => pok f s t d = true ∧ bd64 s ∧ bd64 t ∧ x.length < 1000 ∧ Q (.str (shaD (x ++ pbytes f s t d))) []
  | _, _ => False
theorem pdig_c {y0 : CV} {cs0 : List CV} (hK : KAt y0 cs0) : Meets Tryd.prog [(1, y0 :: cs0)] 32 pdigS := by
  refine meets_of Γok Tryd.func32 rfl ?_
  intro args H Q h
  unfold pdigS at h
  split at h
  case h_3 => exact h.elim
  · rename_i f s t d
    obtain ⟨hp, hs, ht, h⟩ := h
    obtain ⟨p1, p2, p3, p4, p5⟩ := pok_out hp
    have hl := pbytes_len f s t d
    have hz : (decide (f = 0) && (decide (s = 0) && (decide (t = 0) && (decide (d = []) && true)))) = false := by simp [p3]
    have hfl : ([pbytes f s t d] : List (List UInt8)).flatten = pbytes f s t d := by simp
    have hap : (0 + 1) * ti9.bytes ≤ 140737488355328 := by decide
    (refine sx_sound Γok _ ?_; conv => whnf)
    (repeat (first | (exact Out.same; conv => whnf) | (exact Out1.same; conv => whnf) | (refine QAnd.mk ?_ ?_; conv => whnf) | (apply QStepH.go; conv => whnf) | (refine Both.lit_true ?_; conv => whnf) | (refine Both.lit_false ?_; conv => whnf) | (apply QStep.go; conv => whnf) | (refine Need.mk ?_ ?_; (focus (first | omega | exact ⟨by omega, by omega⟩ | rfl | exact ⟨rfl, rfl⟩ | exact ⟨rfl, by omega, by omega⟩ | exact ⟨by omega, by omega, by omega⟩ | exact ⟨rfl, Nat.le_of_ble_eq_true rfl⟩ | exact Nat.le_of_ble_eq_true rfl | (refine ⟨rfl, rfl, ?_⟩; simp [isFar, ofV0, CV.up, SV.renL, SV.ren] <;> fail) | (refine ⟨rfl, Nat.le_of_ble_eq_true rfl, ?_⟩; simp [isFar, ofV0, CV.up, SV.renL, SV.ren] <;> fail) | (simp only [List.length_append, List.length_drop, List.length_take, List.length_replicate, List.length_map]; omega) | (simp <;> fail))); conv => whnf) | (refine ⟨_, rfl, ?_⟩; conv => whnf)))
    refine CallVC.auto (pbyOk_k.gl (G := [(1, y0 :: cs0)])) ⟨hp, hs, ht, ?_⟩
    revert h hl hfl
    generalize pbytes f s t d = b
    intro h hl hfl
    (conv => whnf)
    (repeat (first | (refine Both.of_false hz ?_; conv => whnf) | (exact Out.same; conv => whnf) | (exact Out1.same; conv => whnf) | (refine QAnd.mk ?_ ?_; conv => whnf) | (apply QStepH.go; conv => whnf) | (refine Both.lit_true ?_; conv => whnf) | (refine Both.lit_false ?_; conv => whnf) | (apply QStep.go; conv => whnf) | (refine Need.mk ?_ ?_; (focus (first | omega | exact ⟨by omega, by omega⟩ | rfl | exact ⟨rfl, rfl⟩ | exact ⟨rfl, by omega, by omega⟩ | exact ⟨by omega, by omega, by omega⟩ | exact ⟨rfl, Nat.le_of_ble_eq_true rfl⟩ | exact Nat.le_of_ble_eq_true rfl | (refine ⟨rfl, rfl, ?_⟩; simp [isFar, ofV0, CV.up, SV.renL, SV.ren] <;> fail) | (refine ⟨rfl, Nat.le_of_ble_eq_true rfl, ?_⟩; simp [isFar, ofV0, CV.up, SV.renL, SV.ren] <;> fail) | (simp only [List.length_append, List.length_drop, List.length_take, List.length_replicate, List.length_map]; omega) | (simp <;> fail))); conv => whnf) | (refine ⟨_, rfl, ?_⟩; conv => whnf)))
    refine CallVC.autoW _ (Weak.pubT 1 rfl) (shaSum_k hK) ?_
    refine ⟨[b], rfl, rfl, (by show (1 : Nat) < 1000000000; omega), by rw [hfl]; omega, ?_⟩
    rw [hfl]
    (conv => whnf)
    (repeat (first | (exact Out.same; conv => whnf) | (exact Out1.same; conv => whnf) | (refine QAnd.mk ?_ ?_; conv => whnf) | (apply QStepH.go; conv => whnf) | (refine Both.lit_true ?_; conv => whnf) | (refine Both.lit_false ?_; conv => whnf) | (apply QStep.go; conv => whnf) | (refine Need.mk ?_ ?_; (focus (first | omega | exact ⟨by omega, by omega⟩ | rfl | exact ⟨rfl, rfl⟩ | exact ⟨rfl, by omega, by omega⟩ | exact ⟨by omega, by omega, by omega⟩ | exact ⟨rfl, Nat.le_of_ble_eq_true rfl⟩ | exact Nat.le_of_ble_eq_true rfl | (refine ⟨rfl, rfl, ?_⟩; simp [isFar, ofV0, CV.up, SV.renL, SV.ren] <;> fail) | (refine ⟨rfl, Nat.le_of_ble_eq_true rfl, ?_⟩; simp [isFar, ofV0, CV.up, SV.renL, SV.ren] <;> fail) | (simp only [List.length_append, List.length_drop, List.length_take, List.length_replicate, List.length_map]; omega) | (simp <;> fail))); conv => whnf) | (refine ⟨_, rfl, ?_⟩; conv => whnf)))
    exact ⟨_, _, WeakV.drop rfl, h⟩
  · rename_i f s t d x
    obtain ⟨hp, hs, ht, hx, h⟩ := h
    obtain ⟨p1, p2, p3, p4, p5⟩ := pok_out hp
    have hl := pbytes_len f s t d
    have hz : (decide (f = 0) && (decide (s = 0) && (decide (t = 0) && (decide (d = []) && true)))) = false := by simp [p3]
    have hfl : ([x, pbytes f s t d] : List (List UInt8)).flatten = x ++ pbytes f s t d := by simp
    have hap : 1 = ti9.size ∧ 0 < 1 ∧ (1 + 1) * ti9.bytes ≤ 140737488355328 := by decide
    have hal : (x ++ pbytes f s t d).length < 500000 := by rw [List.length_append]; omega
    (refine sx_sound Γok _ ?_; conv => whnf)
    (repeat (first | (exact Out.same; conv => whnf) | (exact Out1.same; conv => whnf) | (refine QAnd.mk ?_ ?_; conv => whnf) | (apply QStepH.go; conv => whnf) | (refine Both.lit_true ?_; conv => whnf) | (refine Both.lit_false ?_; conv => whnf) | (apply QStep.go; conv => whnf) | (refine Need.mk ?_ ?_; (focus (first | omega | exact ⟨by omega, by omega⟩ | rfl | exact ⟨rfl, rfl⟩ | exact ⟨rfl, by omega, by omega⟩ | exact ⟨by omega, by omega, by omega⟩ | exact ⟨rfl, Nat.le_of_ble_eq_true rfl⟩ | exact Nat.le_of_ble_eq_true rfl | (refine ⟨rfl, rfl, ?_⟩; simp [isFar, ofV0, CV.up, SV.renL, SV.ren] <;> fail) | (refine ⟨rfl, Nat.le_of_ble_eq_true rfl, ?_⟩; simp [isFar, ofV0, CV.up, SV.renL, SV.ren] <;> fail) | (simp only [List.length_append, List.length_drop, List.length_take, List.length_replicate, List.length_map]; omega) | (simp <;> fail))); conv => whnf) | (refine ⟨_, rfl, ?_⟩; conv => whnf)))
    refine CallVC.auto (pbyOk_k.gl (G := [(1, y0 :: cs0)])) ⟨hp, hs, ht, ?_⟩
    revert h hl hfl hal
    generalize pbytes f s t d = b
    intro h hl hfl hal
    (conv => whnf)
    (repeat (first | (refine Both.of_false hz ?_; conv => whnf) | (refine Need.mk hap ?_; conv => whnf) | (exact Out.same; conv => whnf) | (exact Out1.same; conv => whnf) | (refine QAnd.mk ?_ ?_; conv => whnf) | (apply QStepH.go; conv => whnf) | (refine Both.lit_true ?_; conv => whnf) | (refine Both.lit_false ?_; conv => whnf) | (apply QStep.go; conv => whnf) | (refine Need.mk ?_ ?_; (focus (first | omega | exact ⟨by omega, by omega⟩ | rfl | exact ⟨rfl, rfl⟩ | exact ⟨rfl, by omega, by omega⟩ | exact ⟨by omega, by omega, by omega⟩ | exact ⟨rfl, Nat.le_of_ble_eq_true rfl⟩ | exact Nat.le_of_ble_eq_true rfl | (refine ⟨rfl, rfl, ?_⟩; simp [isFar, ofV0, CV.up, SV.renL, SV.ren] <;> fail) | (refine ⟨rfl, Nat.le_of_ble_eq_true rfl, ?_⟩; simp [isFar, ofV0, CV.up, SV.renL, SV.ren] <;> fail) | (simp only [List.length_append, List.length_drop, List.length_take, List.length_replicate, List.length_map]; omega) | (simp <;> fail))); conv => whnf) | (refine ⟨_, rfl, ?_⟩; conv => whnf)))
    refine CallVC.autoW _ (Weak.pubT 1 rfl) (shaSum_k hK) ?_
    refine ⟨[x, b], rfl, rfl, (by show (2 : Nat) < 1000000000; omega), by rw [hfl]; omega, ?_⟩
    rw [hfl]
    (conv => whnf)
    (repeat (first | (exact Out.same; conv => whnf) | (exact Out1.same; conv => whnf) | (refine QAnd.mk ?_ ?_; conv => whnf) | (apply QStepH.go; conv => whnf) | (refine Both.lit_true ?_; conv => whnf) | (refine Both.lit_false ?_; conv => whnf) | (apply QStep.go; conv => whnf) | (refine Need.mk ?_ ?_; (focus (first | omega | exact ⟨by omega, by omega⟩ | rfl | exact ⟨rfl, rfl⟩ | exact ⟨rfl, by omega, by omega⟩ | exact ⟨by omega, by omega, by omega⟩ | exact ⟨rfl, Nat.le_of_ble_eq_true rfl⟩ | exact Nat.le_of_ble_eq_true rfl | (refine ⟨rfl, rfl, ?_⟩; simp [isFar, ofV0, CV.up, SV.renL, SV.ren] <;> fail) | (refine ⟨rfl, Nat.le_of_ble_eq_true rfl, ?_⟩; simp [isFar, ofV0, CV.up, SV.renL, SV.ren] <;> fail) | (simp only [List.length_append, List.length_drop, List.length_take, List.length_replicate, List.length_map]; omega) | (simp <;> fail))); conv => whnf) | (refine ⟨_, rfl, ?_⟩; conv => whnf)))
    exact ⟨_, _, WeakV.drop rfl, h⟩
theorem pdig_k {y0 : CV} {cs0 : List CV} (hK : KAt y0 cs0) : Contract Tryd.prog [(1, y0 :: cs0)] 32 pdigS := ⟨⟨⟨_, rfl, rfl, rfl⟩⟩, pdig_c hK⟩
def ack : List UInt8 := [97, 99, 107]
def pcomS (pre : List UInt8) : Spec := fun args H Q => match args, H with
  | [.agg [.int .i64 f, .int .u64 s, .int .u64 t, .str d]], [] => pok f s t d = true ∧ bd64 s ∧ bd64 t ∧ Q (.str (shaD (pre ++ pbytes f s t d))) []
  | _, _ => False
theorem pcom_c {y0 : CV} {cs0 : List CV} (hK : KAt y0 cs0) : Meets Tryd.prog [(1, y0 :: cs0)] 14 (pcomS []) := by
  refine meets_of Γok Tryd.func14 rfl ?_
  intro args H Q h
  unfold pcomS at h
  split at h
  case h_2 => exact h.elim
  obtain ⟨hp, hs, ht, h⟩ := h
  (refine sx_sound Γok _ ?_; conv => whnf)
  (repeat (first | (exact Out.same; conv => whnf) | (exact Out1.same; conv => whnf) | (refine QAnd.mk ?_ ?_; conv => whnf) | (apply QStepH.go; conv => whnf) | (refine Both.lit_true ?_; conv => whnf) | (refine Both.lit_false ?_; conv => whnf) | (apply QStep.go; conv => whnf) | (refine Need.mk ?_ ?_; (focus (first | omega | exact ⟨by omega, by omega⟩ | rfl | exact ⟨rfl, rfl⟩ | exact ⟨rfl, by omega, by omega⟩ | exact ⟨by omega, by omega, by omega⟩ | exact ⟨rfl, Nat.le_of_ble_eq_true rfl⟩ | exact Nat.le_of_ble_eq_true rfl | (refine ⟨rfl, rfl, ?_⟩; simp [isFar, ofV0, CV.up, SV.renL, SV.ren] <;> fail) | (refine ⟨rfl, Nat.le_of_ble_eq_true rfl, ?_⟩; simp [isFar, ofV0, CV.up, SV.renL, SV.ren] <;> fail) | (simp only [List.length_append, List.length_drop, List.length_take, List.length_replicate, List.length_map]; omega) | (simp <;> fail))); conv => whnf) | (refine ⟨_, rfl, ?_⟩; conv => whnf)))
  refine CallVC.auto (pdig_k hK) ⟨hp, hs, ht, ?_⟩
  (conv => whnf)
  (repeat (first | (exact Out.same; conv => whnf) | (exact Out1.same; conv => whnf) | (refine QAnd.mk ?_ ?_; conv => whnf) | (apply QStepH.go; conv => whnf) | (refine Both.lit_true ?_; conv => whnf) | (refine Both.lit_false ?_; conv => whnf) | (apply QStep.go; conv => whnf) | (refine Need.mk ?_ ?_; (focus (first | omega | exact ⟨by omega, by omega⟩ | rfl | exact ⟨rfl, rfl⟩ | exact ⟨rfl, by omega, by omega⟩ | exact ⟨by omega, by omega, by omega⟩ | exact ⟨rfl, Nat.le_of_ble_eq_true rfl⟩ | exact Nat.le_of_ble_eq_true rfl | (refine ⟨rfl, rfl, ?_⟩; simp [isFar, ofV0, CV.up, SV.renL, SV.ren] <;> fail) | (refine ⟨rfl, Nat.le_of_ble_eq_true rfl, ?_⟩; simp [isFar, ofV0, CV.up, SV.renL, SV.ren] <;> fail) | (simp only [List.length_append, List.length_drop, List.length_take, List.length_replicate, List.length_map]; omega) | (simp <;> fail))); conv => whnf) | (refine ⟨_, rfl, ?_⟩; conv => whnf)))
  exact ⟨_, _, WeakV.drop rfl, h⟩
theorem pcom_k {y0 : CV} {cs0 : List CV} (hK : KAt y0 cs0) : Contract Tryd.prog [(1, y0 :: cs0)] 14 (pcomS []) := ⟨⟨⟨_, rfl, rfl, rfl⟩⟩, pcom_c hK⟩
theorem pans_c {y0 : CV} {cs0 : List CV} (hK : KAt y0 cs0) : Meets Tryd.prog [(1, y0 :: cs0)] 15 (pcomS ack) := by
  refine meets_of Γok Tryd.func15 rfl ?_
  intro args H Q h
  unfold pcomS at h
  split at h
  case h_2 => exact h.elim
  obtain ⟨hp, hs, ht, h⟩ := h
  (refine sx_sound Γok _ ?_; conv => whnf)
  (repeat (first | (exact Out.same; conv => whnf) | (exact Out1.same; conv => whnf) | (refine QAnd.mk ?_ ?_; conv => whnf) | (apply QStepH.go; conv => whnf) | (refine Both.lit_true ?_; conv => whnf) | (refine Both.lit_false ?_; conv => whnf) | (apply QStep.go; conv => whnf) | (refine Need.mk ?_ ?_; (focus (first | omega | exact ⟨by omega, by omega⟩ | rfl | exact ⟨rfl, rfl⟩ | exact ⟨rfl, by omega, by omega⟩ | exact ⟨by omega, by omega, by omega⟩ | exact ⟨rfl, Nat.le_of_ble_eq_true rfl⟩ | exact Nat.le_of_ble_eq_true rfl | (refine ⟨rfl, rfl, ?_⟩; simp [isFar, ofV0, CV.up, SV.renL, SV.ren] <;> fail) | (refine ⟨rfl, Nat.le_of_ble_eq_true rfl, ?_⟩; simp [isFar, ofV0, CV.up, SV.renL, SV.ren] <;> fail) | (simp only [List.length_append, List.length_drop, List.length_take, List.length_replicate, List.length_map]; omega) | (simp <;> fail))); conv => whnf) | (refine ⟨_, rfl, ?_⟩; conv => whnf)))
  refine CallVC.auto (pdig_k hK) ⟨hp, hs, ht, by decide, ?_⟩
  (conv => whnf)
  (repeat (first | (exact Out.same; conv => whnf) | (exact Out1.same; conv => whnf) | (refine QAnd.mk ?_ ?_; conv => whnf) | (apply QStepH.go; conv => whnf) | (refine Both.lit_true ?_; conv => whnf) | (refine Both.lit_false ?_; conv => whnf) | (apply QStep.go; conv => whnf) | (refine Need.mk ?_ ?_; (focus (first | omega | exact ⟨by omega, by omega⟩ | rfl | exact ⟨rfl, rfl⟩ | exact ⟨rfl, by omega, by omega⟩ | exact ⟨by omega, by omega, by omega⟩ | exact ⟨rfl, Nat.le_of_ble_eq_true rfl⟩ | exact Nat.le_of_ble_eq_true rfl | (refine ⟨rfl, rfl, ?_⟩; simp [isFar, ofV0, CV.up, SV.renL, SV.ren] <;> fail) | (refine ⟨rfl, Nat.le_of_ble_eq_true rfl, ?_⟩; simp [isFar, ofV0, CV.up, SV.renL, SV.ren] <;> fail) | (simp only [List.length_append, List.length_drop, List.length_take, List.length_replicate, List.length_map]; omega) | (simp <;> fail))); conv => whnf) | (refine ⟨_, rfl, ?_⟩; conv => whnf)))
  exact ⟨_, _, WeakV.drop rfl, h⟩
theorem pans_k {y0 : CV} {cs0 : List CV} (hK : KAt y0 cs0) : Contract Tryd.prog [(1, y0 :: cs0)] 15 (pcomS ack) := ⟨⟨⟨_, rfl, rfl, rfl⟩⟩, pans_c hK⟩
/-! ## The document's -/
def rpbS : Spec := fun args H Q => match args, H with
  | [.agg [.int .i64 f, .int .u64 s, .int .u64 t, .str d]], [] => pok f s t d = true ∧ bd64 s ∧ bd64 t ∧ Q (.str (pbytes f s t d)) []
  | _, _ => False
theorem rpb_c : Meets Tryd.prog [] 36 rpbS := by
  refine meets_of Γok Tryd.func36 rfl ?_
  intro args H Q h
  unfold rpbS at h
  split at h
  case h_2 => exact h.elim
  rename_i f s t d
  obtain ⟨hp, hs, ht, h⟩ := h
  obtain ⟨p1, p2, p3, p4, p5⟩ := pok_out hp
  obtain ⟨hs1, hs2⟩ := hs
  obtain ⟨ht1, ht2⟩ := ht
  have hx : (((beb f.toNat 1 ++ beb s.toNat 8) ++ beb t.toNat 8) ++ beb d.length 2) ++ d = pbytes f s t d := by unfold pbytes; simp only [List.append_assoc]
  have hwf : IntKind.u64.wrap f = ((f.toNat : Nat) : Int) := by rw [wrap_u64 (by omega) (by omega)]; omega
  have hws : s = ((s.toNat : Nat) : Int) := by omega
  have hwt : t = ((t.toNat : Nat) : Int) := by omega
  have hwd : IntKind.u64.wrap ((d.length : Nat) : Int) = ((d.length : Nat) : Int) := wrap_u64 (by omega) (by omega)
  have bf : f.toNat < 18446744073709551616 := by omega
  have bs : s.toNat < 18446744073709551616 := by omega
  have bt : t.toNat < 18446744073709551616 := by omega
  have bdl : d.length < 18446744073709551616 := by omega
  have n1 : (beb f.toNat 1).length + (beb s.toNat 8).length ≤ 9223372036854775807 := by rw [beb_length, beb_length]; decide
  have n2 : (beb f.toNat 1 ++ beb s.toNat 8).length + (beb t.toNat 8).length ≤ 9223372036854775807 := by rw [List.length_append, beb_length, beb_length, beb_length]; decide
  have n3 : ((beb f.toNat 1 ++ beb s.toNat 8) ++ beb t.toNat 8).length + (beb d.length 2).length ≤ 9223372036854775807 := by rw [List.length_append, List.length_append, beb_length, beb_length, beb_length, beb_length]; decide
  have n4 : (((beb f.toNat 1 ++ beb s.toNat 8) ++ beb t.toNat 8) ++ beb d.length 2).length + d.length ≤ 9223372036854775807 := by rw [List.length_append, List.length_append, List.length_append, beb_length, beb_length, beb_length, beb_length]; omega
  rw [← hx] at h
  clear hx
  (refine sx_sound Γok _ ?_; conv => whnf)
  (refine DrawVC.any Γok (by kernel_rfl) (by kernel_rfl) (by kernel_rfl) (by rfl) ?_; conv => whnf)
  (repeat (first | (refine CallVC.auto rb_k ⟨f.toNat, 1, hwf, bf, rfl, by decide, ?_⟩; conv => whnf) | (refine CallVC.auto rb_k ⟨s.toNat, 8, hws, bs, rfl, by decide, ?_⟩; conv => whnf) | (refine CallVC.auto rb_k ⟨t.toNat, 8, hwt, bt, rfl, by decide, ?_⟩; conv => whnf) | (refine CallVC.auto rb_k ⟨d.length, 2, hwd, bdl, rfl, by decide, ?_⟩; conv => whnf) | (refine Need.mk n1 ?_; conv => whnf) | (refine Need.mk n2 ?_; conv => whnf) | (refine Need.mk n3 ?_; conv => whnf) | (refine Need.mk n4 ?_; conv => whnf) | (exact Out.same; conv => whnf) | (exact Out1.same; conv => whnf) | (refine QAnd.mk ?_ ?_; conv => whnf) | (apply QStepH.go; conv => whnf) | (refine Both.lit_true ?_; conv => whnf) | (refine Both.lit_false ?_; conv => whnf) | (apply QStep.go; conv => whnf) | (refine Need.mk ?_ ?_; (focus (first | omega | exact ⟨by omega, by omega⟩ | rfl | exact ⟨rfl, rfl⟩ | exact ⟨rfl, by omega, by omega⟩ | exact ⟨by omega, by omega, by omega⟩ | exact ⟨rfl, Nat.le_of_ble_eq_true rfl⟩ | exact Nat.le_of_ble_eq_true rfl | (refine ⟨rfl, rfl, ?_⟩; simp [isFar, ofV0, CV.up, SV.renL, SV.ren] <;> fail) | (refine ⟨rfl, Nat.le_of_ble_eq_true rfl, ?_⟩; simp [isFar, ofV0, CV.up, SV.renL, SV.ren] <;> fail) | (simp only [List.length_append, List.length_drop, List.length_take, List.length_replicate, List.length_map]; omega) | (simp <;> fail))); conv => whnf) | (refine ⟨_, rfl, ?_⟩; conv => whnf)))
  exact ⟨_, _, WeakV.drop rfl, h⟩
theorem rpb_k : Contract Tryd.prog [] 36 rpbS := ⟨⟨⟨_, rfl, rfl, rfl⟩⟩, rpb_c⟩
def inBk (H : List LObj) (c : List (List UInt8) → Prop) : Prop :=
  match H with
  | [.cells [.sl 1 64 ka false, .sl 1 8 kb false, .mp 1, .bool cl] 54, .map 2 es] => ∃ T, ka = ks kT ∧ kb = ks hT ∧ cl = bcl T ∧ es = bes T ∧ c T
  | _ => False
theorem inBk_out {H : List LObj} {c : List (List UInt8) → Prop} (h : inBk H c) : ∃ T, H = bkO T ∧ c T := by
  unfold inBk at h
  split at h
  · obtain ⟨T, rfl, rfl, rfl, rfl, h⟩ := h
    exact ⟨T, rfl, h⟩
  · exact h.elim
theorem inBk_mk {T : List (List UInt8)} {c : List (List UInt8) → Prop} (h : c T) : inBk (bkO T) c := ⟨T, rfl, rfl, rfl, rfl, h⟩
def rcomS (pre : List UInt8) : Spec := fun args H Q => match args with
  | [.ptr 0 0, .agg [.int .i64 f, .int .u64 s, .int .u64 t, .str d]] => inBk H fun T => pok f s t d = true ∧ bd64 s ∧ bd64 t ∧ Q (.str (shaD (pre ++ pbytes f s t d))) (bkO ((pre ++ pbytes f s t d) :: T))
  | _ => False
theorem rcom_c : Meets Tryd.prog [] 17 (rcomS []) := by
  refine meets_of Γok Tryd.func17 rfl ?_
  intro args H Q h
  unfold rcomS at h
  split at h
  case h_2 => exact h.elim
  rename_i f s t d
  obtain ⟨T, rfl, hp, hs, ht, h⟩ := inBk_out h
  obtain ⟨p1, p2, p3, p4, p5⟩ := pok_out hp
  have hl := pbytes_len f s t d
  (refine sx_sound Γok _ ?_; conv => whnf)
  (repeat (first | (exact Out.same; conv => whnf) | (exact Out1.same; conv => whnf) | (refine QAnd.mk ?_ ?_; conv => whnf) | (apply QStepH.go; conv => whnf) | (refine Both.lit_true ?_; conv => whnf) | (refine Both.lit_false ?_; conv => whnf) | (apply QStep.go; conv => whnf) | (refine Need.mk ?_ ?_; (focus (first | omega | exact ⟨by omega, by omega⟩ | rfl | exact ⟨rfl, rfl⟩ | exact ⟨rfl, by omega, by omega⟩ | exact ⟨by omega, by omega, by omega⟩ | exact ⟨rfl, Nat.le_of_ble_eq_true rfl⟩ | exact Nat.le_of_ble_eq_true rfl | (refine ⟨rfl, rfl, ?_⟩; simp [isFar, ofV0, CV.up, SV.renL, SV.ren] <;> fail) | (refine ⟨rfl, Nat.le_of_ble_eq_true rfl, ?_⟩; simp [isFar, ofV0, CV.up, SV.renL, SV.ren] <;> fail) | (simp only [List.length_append, List.length_drop, List.length_take, List.length_replicate, List.length_map]; omega) | (simp <;> fail))); conv => whnf) | (refine ⟨_, rfl, ?_⟩; conv => whnf)))
  refine CallVC.auto rright_k (Need.mk ⟨hs.1, ht.1⟩ ?_)
  intro b hb
  rw [hp] at hb
  subst hb
  (conv => whnf)
  (repeat (first | (exact Out.same; conv => whnf) | (exact Out1.same; conv => whnf) | (refine QAnd.mk ?_ ?_; conv => whnf) | (apply QStepH.go; conv => whnf) | (refine Both.lit_true ?_; conv => whnf) | (refine Both.lit_false ?_; conv => whnf) | (apply QStep.go; conv => whnf) | (refine Need.mk ?_ ?_; (focus (first | omega | exact ⟨by omega, by omega⟩ | rfl | exact ⟨rfl, rfl⟩ | exact ⟨rfl, by omega, by omega⟩ | exact ⟨by omega, by omega, by omega⟩ | exact ⟨rfl, Nat.le_of_ble_eq_true rfl⟩ | exact Nat.le_of_ble_eq_true rfl | (refine ⟨rfl, rfl, ?_⟩; simp [isFar, ofV0, CV.up, SV.renL, SV.ren] <;> fail) | (refine ⟨rfl, Nat.le_of_ble_eq_true rfl, ?_⟩; simp [isFar, ofV0, CV.up, SV.renL, SV.ren] <;> fail) | (simp only [List.length_append, List.length_drop, List.length_take, List.length_replicate, List.length_map]; omega) | (simp <;> fail))); conv => whnf) | (refine ⟨_, rfl, ?_⟩; conv => whnf)))
  refine CallVC.auto rpb_k ⟨hp, hs, ht, ?_⟩
  (conv => whnf)
  (repeat (first | (exact Out.same; conv => whnf) | (exact Out1.same; conv => whnf) | (refine QAnd.mk ?_ ?_; conv => whnf) | (apply QStepH.go; conv => whnf) | (refine Both.lit_true ?_; conv => whnf) | (refine Both.lit_false ?_; conv => whnf) | (apply QStep.go; conv => whnf) | (refine Need.mk ?_ ?_; (focus (first | omega | exact ⟨by omega, by omega⟩ | rfl | exact ⟨rfl, rfl⟩ | exact ⟨rfl, by omega, by omega⟩ | exact ⟨by omega, by omega, by omega⟩ | exact ⟨rfl, Nat.le_of_ble_eq_true rfl⟩ | exact Nat.le_of_ble_eq_true rfl | (refine ⟨rfl, rfl, ?_⟩; simp [isFar, ofV0, CV.up, SV.renL, SV.ren] <;> fail) | (refine ⟨rfl, Nat.le_of_ble_eq_true rfl, ?_⟩; simp [isFar, ofV0, CV.up, SV.renL, SV.ren] <;> fail) | (simp only [List.length_append, List.length_drop, List.length_take, List.length_replicate, List.length_map]; omega) | (simp <;> fail))); conv => whnf) | (refine ⟨_, rfl, ?_⟩; conv => whnf)))
  refine CallVC.auto bsum_k (inBk_mk ⟨by omega, ?_⟩)
  (conv => whnf)
  (repeat (first | (exact Out.same; conv => whnf) | (exact Out1.same; conv => whnf) | (refine QAnd.mk ?_ ?_; conv => whnf) | (apply QStepH.go; conv => whnf) | (refine Both.lit_true ?_; conv => whnf) | (refine Both.lit_false ?_; conv => whnf) | (apply QStep.go; conv => whnf) | (refine Need.mk ?_ ?_; (focus (first | omega | exact ⟨by omega, by omega⟩ | rfl | exact ⟨rfl, rfl⟩ | exact ⟨rfl, by omega, by omega⟩ | exact ⟨by omega, by omega, by omega⟩ | exact ⟨rfl, Nat.le_of_ble_eq_true rfl⟩ | exact Nat.le_of_ble_eq_true rfl | (refine ⟨rfl, rfl, ?_⟩; simp [isFar, ofV0, CV.up, SV.renL, SV.ren] <;> fail) | (refine ⟨rfl, Nat.le_of_ble_eq_true rfl, ?_⟩; simp [isFar, ofV0, CV.up, SV.renL, SV.ren] <;> fail) | (simp only [List.length_append, List.length_drop, List.length_take, List.length_replicate, List.length_map]; omega) | (simp <;> fail))); conv => whnf) | (refine ⟨_, rfl, ?_⟩; conv => whnf)))
  refine ⟨_, _, WeakV.auto ?_, h⟩
  (repeat' ((conv => whnf); first | exact True.intro | (refine And.intro ?_ ?_)))
  all_goals first | rfl | exact .eq rfl
theorem rcom_k : Contract Tryd.prog [] 17 (rcomS []) := ⟨⟨⟨_, rfl, rfl, rfl⟩⟩, rcom_c⟩
theorem rans_c : Meets Tryd.prog [] 18 (rcomS ack) := by
  refine meets_of Γok Tryd.func18 rfl ?_
  intro args H Q h
  unfold rcomS at h
  split at h
  case h_2 => exact h.elim
  rename_i f s t d
  obtain ⟨T, rfl, hp, hs, ht, h⟩ := inBk_out h
  obtain ⟨p1, p2, p3, p4, p5⟩ := pok_out hp
  have hl := pbytes_len f s t d
  have hl3 : (ack ++ pbytes f s t d).length < 900000 := by rw [List.length_append]; show 3 + _ < _; omega
  have n1 : ack.length + (pbytes f s t d).length ≤ 9223372036854775807 := by show 3 + _ ≤ _; omega
  (refine sx_sound Γok _ ?_; conv => whnf)
  (repeat (first | (exact Out.same; conv => whnf) | (exact Out1.same; conv => whnf) | (refine QAnd.mk ?_ ?_; conv => whnf) | (apply QStepH.go; conv => whnf) | (refine Both.lit_true ?_; conv => whnf) | (refine Both.lit_false ?_; conv => whnf) | (apply QStep.go; conv => whnf) | (refine Need.mk ?_ ?_; (focus (first | omega | exact ⟨by omega, by omega⟩ | rfl | exact ⟨rfl, rfl⟩ | exact ⟨rfl, by omega, by omega⟩ | exact ⟨by omega, by omega, by omega⟩ | exact ⟨rfl, Nat.le_of_ble_eq_true rfl⟩ | exact Nat.le_of_ble_eq_true rfl | (refine ⟨rfl, rfl, ?_⟩; simp [isFar, ofV0, CV.up, SV.renL, SV.ren] <;> fail) | (refine ⟨rfl, Nat.le_of_ble_eq_true rfl, ?_⟩; simp [isFar, ofV0, CV.up, SV.renL, SV.ren] <;> fail) | (simp only [List.length_append, List.length_drop, List.length_take, List.length_replicate, List.length_map]; omega) | (simp <;> fail))); conv => whnf) | (refine ⟨_, rfl, ?_⟩; conv => whnf)))
  refine CallVC.auto rright_k (Need.mk ⟨hs.1, ht.1⟩ ?_)
  intro b hb
  rw [hp] at hb
  subst hb
  (conv => whnf)
  (repeat (first | (exact Out.same; conv => whnf) | (exact Out1.same; conv => whnf) | (refine QAnd.mk ?_ ?_; conv => whnf) | (apply QStepH.go; conv => whnf) | (refine Both.lit_true ?_; conv => whnf) | (refine Both.lit_false ?_; conv => whnf) | (apply QStep.go; conv => whnf) | (refine Need.mk ?_ ?_; (focus (first | omega | exact ⟨by omega, by omega⟩ | rfl | exact ⟨rfl, rfl⟩ | exact ⟨rfl, by omega, by omega⟩ | exact ⟨by omega, by omega, by omega⟩ | exact ⟨rfl, Nat.le_of_ble_eq_true rfl⟩ | exact Nat.le_of_ble_eq_true rfl | (refine ⟨rfl, rfl, ?_⟩; simp [isFar, ofV0, CV.up, SV.renL, SV.ren] <;> fail) | (refine ⟨rfl, Nat.le_of_ble_eq_true rfl, ?_⟩; simp [isFar, ofV0, CV.up, SV.renL, SV.ren] <;> fail) | (simp only [List.length_append, List.length_drop, List.length_take, List.length_replicate, List.length_map]; omega) | (simp <;> fail))); conv => whnf) | (refine ⟨_, rfl, ?_⟩; conv => whnf)))
  refine CallVC.auto rpb_k ⟨hp, hs, ht, ?_⟩
  (conv => whnf)
  (repeat (first | (refine Need.mk n1 ?_; conv => whnf) | (exact Out.same; conv => whnf) | (exact Out1.same; conv => whnf) | (refine QAnd.mk ?_ ?_; conv => whnf) | (apply QStepH.go; conv => whnf) | (refine Both.lit_true ?_; conv => whnf) | (refine Both.lit_false ?_; conv => whnf) | (apply QStep.go; conv => whnf) | (refine Need.mk ?_ ?_; (focus (first | omega | exact ⟨by omega, by omega⟩ | rfl | exact ⟨rfl, rfl⟩ | exact ⟨rfl, by omega, by omega⟩ | exact ⟨by omega, by omega, by omega⟩ | exact ⟨rfl, Nat.le_of_ble_eq_true rfl⟩ | exact Nat.le_of_ble_eq_true rfl | (refine ⟨rfl, rfl, ?_⟩; simp [isFar, ofV0, CV.up, SV.renL, SV.ren] <;> fail) | (refine ⟨rfl, Nat.le_of_ble_eq_true rfl, ?_⟩; simp [isFar, ofV0, CV.up, SV.renL, SV.ren] <;> fail) | (simp only [List.length_append, List.length_drop, List.length_take, List.length_replicate, List.length_map]; omega) | (simp <;> fail))); conv => whnf) | (refine ⟨_, rfl, ?_⟩; conv => whnf)))
  refine CallVC.auto bsum_k (inBk_mk ⟨hl3, ?_⟩)
  (conv => whnf)
  (repeat (first | (exact Out.same; conv => whnf) | (exact Out1.same; conv => whnf) | (refine QAnd.mk ?_ ?_; conv => whnf) | (apply QStepH.go; conv => whnf) | (refine Both.lit_true ?_; conv => whnf) | (refine Both.lit_false ?_; conv => whnf) | (apply QStep.go; conv => whnf) | (refine Need.mk ?_ ?_; (focus (first | omega | exact ⟨by omega, by omega⟩ | rfl | exact ⟨rfl, rfl⟩ | exact ⟨rfl, by omega, by omega⟩ | exact ⟨by omega, by omega, by omega⟩ | exact ⟨rfl, Nat.le_of_ble_eq_true rfl⟩ | exact Nat.le_of_ble_eq_true rfl | (refine ⟨rfl, rfl, ?_⟩; simp [isFar, ofV0, CV.up, SV.renL, SV.ren] <;> fail) | (refine ⟨rfl, Nat.le_of_ble_eq_true rfl, ?_⟩; simp [isFar, ofV0, CV.up, SV.renL, SV.ren] <;> fail) | (simp only [List.length_append, List.length_drop, List.length_take, List.length_replicate, List.length_map]; omega) | (simp <;> fail))); conv => whnf) | (refine ⟨_, rfl, ?_⟩; conv => whnf)))
  refine ⟨_, _, WeakV.auto ?_, h⟩
  (repeat' ((conv => whnf); first | exact True.intro | (refine And.intro ?_ ?_)))
  all_goals first | rfl | exact .eq rfl
theorem rans_k : Contract Tryd.prog [] 18 (rcomS ack) := ⟨⟨⟨_, rfl, rfl, rfl⟩⟩, rans_c⟩
end Go.LX
end
