/- Own texts of this claim, in build order: WireW, WireR, WireX, WireN, Mm, WireB, Ma, Mb, Mc, Mn, Md, Me, Mf, Mg, Mh, Mi, Mj, Lp, Qa, Lo, Mo, Mk, Ml, Qb, Qc, Qd, Mp, Ls. -/
import Derived.Test.YtfnpemikicofaaaDoorZ3
section
set_option maxRecDepth 100000
set_option maxHeartbeats 4000000
set_option autoImplicit false
set_option linter.unusedVariables false
set_option linter.unusedSimpArgs false
namespace Go.LX
open Go.Proofs

theorem noesc : ∀ (v : Value) (w : World), (callFunc 96 #[v]).run Tryd.prog w = .ok (.value v) w := by
  intro v w
  rw [Go.run_callFunc_extern Tryd.func96 (by kernel_rfl) (by kernel_rfl) (by kernel_rfl) (e := Extern.AbiNoEscape.same) (by kernel_rfl)]
  rfl
theorem info_bld : ∃ j, Tryd.prog.info? 73 = some j ∧ j.size ≠ 0 := by
  have h : (Tryd.prog.info? 73).map (·.size) = some 2 := by kernel_rfl
  cases hj : Tryd.prog.info? 73 with
  | none => rw [hj] at h; cases h
  | some j =>
    rw [hj] at h
    refine ⟨j, rfl, ?_⟩
    have h2 : j.size = 2 := by simpa using h
    omega
theorem conv_to : PtrConv Tryd.prog 70 149 75 3 1 := by
  obtain ⟨j, h1, h2⟩ := info_bld
  exact .to Tryd.underlying70 (by kernel_rfl) h1 h2 (by decide)
theorem conv_back : PtrConv Tryd.prog 149 70 75 3 1 := by
  obtain ⟨j, h1, h2⟩ := info_bld
  exact .back (by kernel_rfl) Tryd.underlying70 h1 (by kernel_rfl)
theorem bys_one (l : List UInt8) (b : UInt8) : bys l ++ [CV.int .u8 (b.toNat : Int)] = bys (l ++ [b]) := by simp [bys]
def copyS : Spec := fun args H Q => match args, H with
  | [.ptr 0 1], [.cells [x, .opt 0 1, y] 75, o] => Q (.tuple []) [.cells [x, .ptr 0 1, y] 75, o]
  | _, _ => False
theorem copy_c : Meets Tryd.prog [] 85 copyS := by
  refine meets_of Γok Tryd.func85 rfl ?_
  intro args H Q h
  unfold copyS at h
  split at h
  case h_2 => exact h.elim
  refine Wp.opt 0 1 0 1 rfl rfl ?_ ?_
  · (refine sx_sound Γok _ ?_; conv => whnf)
    refine ⟨_, rfl, ?_⟩
    (conv => whnf)
    (repeat (first | (refine Both.lit_true ?_; conv => whnf) | (refine Both.lit_false ?_; conv => whnf) | (refine Need.mk ?_ ?_; (focus (first | omega | exact ⟨by omega, by omega⟩ | rfl | exact ⟨rfl, rfl⟩ | exact ⟨rfl, Nat.le_of_ble_eq_true rfl⟩ | exact Nat.le_of_ble_eq_true rfl | (refine ⟨rfl, rfl, ?_⟩; simp [isFar, ofV0, CV.up, SV.renL, SV.ren] <;> fail) | (refine ⟨rfl, Nat.le_of_ble_eq_true rfl, ?_⟩; simp [isFar, ofV0, CV.up, SV.renL, SV.ren] <;> fail) | (simp <;> fail))); conv => whnf)))
    refine Need.mk conv_to ?_
    (conv => whnf)
    refine CallVC.same noesc ?_
    (conv => whnf)
    refine Need.mk conv_back ?_
    (conv => whnf)
    (repeat (first | (refine Both.lit_true ?_; conv => whnf) | (refine Both.lit_false ?_; conv => whnf) | (refine Need.mk ?_ ?_; (focus (first | omega | exact ⟨by omega, by omega⟩ | rfl | exact ⟨rfl, rfl⟩ | exact ⟨rfl, Nat.le_of_ble_eq_true rfl⟩ | exact Nat.le_of_ble_eq_true rfl | (refine ⟨rfl, rfl, ?_⟩; simp [isFar, ofV0, CV.up, SV.renL, SV.ren] <;> fail) | (refine ⟨rfl, Nat.le_of_ble_eq_true rfl, ?_⟩; simp [isFar, ofV0, CV.up, SV.renL, SV.ren] <;> fail) | (simp <;> fail))); conv => whnf)))
    exact ⟨_, _, WeakV.refl _ _ _ _, h⟩
  · (refine sx_sound Γok _ ?_; conv => whnf)
    refine ⟨_, rfl, ?_⟩
    (conv => whnf)
    (repeat (first | (refine Both.lit_true ?_; conv => whnf) | (refine Both.lit_false ?_; conv => whnf) | (refine Need.mk ?_ ?_; (focus (first | omega | exact ⟨by omega, by omega⟩ | rfl | exact ⟨rfl, rfl⟩ | exact ⟨rfl, Nat.le_of_ble_eq_true rfl⟩ | exact Nat.le_of_ble_eq_true rfl | (refine ⟨rfl, rfl, ?_⟩; simp [isFar, ofV0, CV.up, SV.renL, SV.ren] <;> fail) | (refine ⟨rfl, Nat.le_of_ble_eq_true rfl, ?_⟩; simp [isFar, ofV0, CV.up, SV.renL, SV.ren] <;> fail) | (simp <;> fail))); conv => whnf)))
    refine ⟨_, rfl, ?_⟩
    (conv => whnf)
    (repeat (first | (refine Both.lit_true ?_; conv => whnf) | (refine Both.lit_false ?_; conv => whnf) | (refine Need.mk ?_ ?_; (focus (first | omega | exact ⟨by omega, by omega⟩ | rfl | exact ⟨rfl, rfl⟩ | exact ⟨rfl, Nat.le_of_ble_eq_true rfl⟩ | exact Nat.le_of_ble_eq_true rfl | (refine ⟨rfl, rfl, ?_⟩; simp [isFar, ofV0, CV.up, SV.renL, SV.ren] <;> fail) | (refine ⟨rfl, Nat.le_of_ble_eq_true rfl, ?_⟩; simp [isFar, ofV0, CV.up, SV.renL, SV.ren] <;> fail) | (simp <;> fail))); conv => whnf)))
    exact ⟨_, _, WeakV.refl _ _ _ _, h⟩
theorem copy_k : Contract Tryd.prog [] 85 copyS := ⟨⟨⟨_, rfl, rfl, rfl⟩⟩, copy_c⟩
def wbS : Spec := fun args H Q => match args, H with
  | [.ptr 0 1, .int .u8 n], [.cells [.int .i64 x, .opt 0 1, .own 1] 75, .own 5 1 m xs true] => ∃ (l : List UInt8) (b : UInt8), n = (b.toNat : Int) ∧ xs = bys l ∧ m = l.length ∧ l.length < 1000000000 ∧ Q .any [.cells [.int .i64 x, .opt 0 1, .own 2] 75, .gone, .own 5 1 (l.length + 1) (bys (l ++ [b])) true]
  | _, _ => False
theorem wb_c : Meets Tryd.prog [] 84 wbS := by
  refine meets_of Γok Tryd.func84 rfl ?_
  intro args H Q h
  unfold wbS at h
  split at h
  case h_2 => exact h.elim
  obtain ⟨l, b, rfl, rfl, rfl, hl, h⟩ := h
  (refine sx_sound Γok _ ?_; conv => whnf)
  all_goals
    refine CallVC.auto copy_k ?_
    (conv => whnf)
    (repeat (first | (refine Both.lit_true ?_; conv => whnf) | (refine Both.lit_false ?_; conv => whnf) | (refine Need.mk ?_ ?_; (focus (first | omega | exact ⟨by omega, by omega⟩ | rfl | exact ⟨rfl, rfl⟩ | exact ⟨rfl, Nat.le_of_ble_eq_true rfl⟩ | exact Nat.le_of_ble_eq_true rfl | (refine ⟨rfl, rfl, ?_⟩; simp [isFar, ofV0, CV.up, SV.renL, SV.ren] <;> fail) | (refine ⟨rfl, Nat.le_of_ble_eq_true rfl, ?_⟩; simp [isFar, ofV0, CV.up, SV.renL, SV.ren] <;> fail) | (simp <;> fail))); conv => whnf)))
    refine ⟨_, rfl, ?_⟩
    (conv => whnf)
    (repeat (first | (refine Both.lit_true ?_; conv => whnf) | (refine Both.lit_false ?_; conv => whnf) | (refine Need.mk ?_ ?_; (focus (first | omega | exact ⟨by omega, by omega⟩ | rfl | exact ⟨rfl, rfl⟩ | exact ⟨rfl, Nat.le_of_ble_eq_true rfl⟩ | exact Nat.le_of_ble_eq_true rfl | (refine ⟨rfl, rfl, ?_⟩; simp [isFar, ofV0, CV.up, SV.renL, SV.ren] <;> fail) | (refine ⟨rfl, Nat.le_of_ble_eq_true rfl, ?_⟩; simp [isFar, ofV0, CV.up, SV.renL, SV.ren] <;> fail) | (simp <;> fail))); conv => whnf)))
    refine Need.mk (by rw [show ti5.bytes = 1 from rfl]; omega) ?_
    (conv => whnf)
    (repeat (first | (refine Both.lit_true ?_; conv => whnf) | (refine Both.lit_false ?_; conv => whnf) | (refine Need.mk ?_ ?_; (focus (first | omega | exact ⟨by omega, by omega⟩ | rfl | exact ⟨rfl, rfl⟩ | exact ⟨rfl, Nat.le_of_ble_eq_true rfl⟩ | exact Nat.le_of_ble_eq_true rfl | (refine ⟨rfl, rfl, ?_⟩; simp [isFar, ofV0, CV.up, SV.renL, SV.ren] <;> fail) | (refine ⟨rfl, Nat.le_of_ble_eq_true rfl, ?_⟩; simp [isFar, ofV0, CV.up, SV.renL, SV.ren] <;> fail) | (simp <;> fail))); conv => whnf)))
    refine ⟨_, _, WeakV.to [0, 1, 2] rfl rfl rfl rfl ?_, h⟩
    (repeat' ((conv => whnf); first | exact True.intro | (refine And.intro ?_ ?_)))
    all_goals first | rfl | exact .eq rfl | exact .pt ⟨rfl, ⟨rfl, rfl⟩, rfl, trivial⟩ | (rw [← bys_one]; rfl)
theorem wb_k : Contract Tryd.prog [] 84 wbS := ⟨⟨⟨_, rfl, rfl, rfl⟩⟩, wb_c⟩
theorem bys_app (l s : List UInt8) : bys l ++ bys s = bys (l ++ s) := by simp [bys]
def wsS : Spec := fun args H Q => match args, H with
  | [.ptr 0 1, .str s], [.cells [.int .i64 x, .opt 0 1, .own 1] 75, .own 5 1 m xs true] => ∃ (l : List UInt8), xs = bys l ∧ m = l.length ∧ l.length < 1000000000 ∧ s.length < 1000000000 ∧ Q (.tuple [.int .i64 s.length, .any]) [.cells [.int .i64 x, .opt 0 1, .own 2] 75, .gone, .own 5 1 (l.length + s.length) (bys (l ++ s)) true]
  | _, _ => False
theorem ws_c : Meets Tryd.prog [] 61 wsS := by
  refine meets_of Γok Tryd.func61 rfl ?_
  intro args H Q h
  unfold wsS at h
  split at h
  case h_2 => exact h.elim
  obtain ⟨l, rfl, rfl, hl, hs, h⟩ := h
  (refine sx_sound Γok _ ?_; conv => whnf)
  all_goals
    refine CallVC.auto copy_k ?_
    (conv => whnf)
    (repeat (first | (refine Both.lit_true ?_; conv => whnf) | (refine Both.lit_false ?_; conv => whnf) | (refine Need.mk ?_ ?_; (focus (first | omega | exact ⟨by omega, by omega⟩ | rfl | exact ⟨rfl, rfl⟩ | exact ⟨rfl, Nat.le_of_ble_eq_true rfl⟩ | exact Nat.le_of_ble_eq_true rfl | (refine ⟨rfl, rfl, ?_⟩; simp [isFar, ofV0, CV.up, SV.renL, SV.ren] <;> fail) | (refine ⟨rfl, Nat.le_of_ble_eq_true rfl, ?_⟩; simp [isFar, ofV0, CV.up, SV.renL, SV.ren] <;> fail) | (simp <;> fail))); conv => whnf)))
    refine ⟨_, rfl, ?_⟩
    (conv => whnf)
    (repeat (first | (refine Both.lit_true ?_; conv => whnf) | (refine Both.lit_false ?_; conv => whnf) | (refine Need.mk ?_ ?_; (focus (first | omega | exact ⟨by omega, by omega⟩ | rfl | exact ⟨rfl, rfl⟩ | exact ⟨rfl, Nat.le_of_ble_eq_true rfl⟩ | exact Nat.le_of_ble_eq_true rfl | (refine ⟨rfl, rfl, ?_⟩; simp [isFar, ofV0, CV.up, SV.renL, SV.ren] <;> fail) | (refine ⟨rfl, Nat.le_of_ble_eq_true rfl, ?_⟩; simp [isFar, ofV0, CV.up, SV.renL, SV.ren] <;> fail) | (simp <;> fail))); conv => whnf)))
    refine Need.mk (by rw [show ti5.bytes = 1 from rfl]; omega) ?_
    (conv => whnf)
    (repeat (first | (refine Both.lit_true ?_; conv => whnf) | (refine Both.lit_false ?_; conv => whnf) | (refine Need.mk ?_ ?_; (focus (first | omega | exact ⟨by omega, by omega⟩ | rfl | exact ⟨rfl, rfl⟩ | exact ⟨rfl, Nat.le_of_ble_eq_true rfl⟩ | exact Nat.le_of_ble_eq_true rfl | (refine ⟨rfl, rfl, ?_⟩; simp [isFar, ofV0, CV.up, SV.renL, SV.ren] <;> fail) | (refine ⟨rfl, Nat.le_of_ble_eq_true rfl, ?_⟩; simp [isFar, ofV0, CV.up, SV.renL, SV.ren] <;> fail) | (simp <;> fail))); conv => whnf)))
    refine ⟨_, _, WeakV.to [0, 1, 2] rfl rfl rfl rfl ?_, h⟩
    (repeat' ((conv => whnf); first | exact True.intro | (refine And.intro ?_ ?_)))
    all_goals first | rfl | exact .eq rfl | exact .pt ⟨rfl, ⟨rfl, rfl⟩, rfl, trivial⟩ | (rw [← bys_app]; rfl)
theorem ws_k : Contract Tryd.prog [] 61 wsS := ⟨⟨⟨_, rfl, rfl, rfl⟩⟩, ws_c⟩
def strS : Spec := fun args H Q => match args, H with
  | [.ptr 0 1], [.cells [.int .i64 x, .opt 0 1, .own 1] 75, .own 5 1 m xs true] => ∃ (l : List UInt8), xs = bys l ∧ m = l.length ∧ l.length < 1000000000000 ∧ Q (.str l) [.cells [.int .i64 x, .opt 0 1, .own 1] 75, .gone]
  | _, _ => False
theorem str_c : Meets Tryd.prog [] 63 strS := by
  refine meets_of Γok Tryd.func63 rfl ?_
  intro args H Q h
  unfold strS at h
  split at h
  case h_2 => exact h.elim
  obtain ⟨l, rfl, rfl, hl, h⟩ := h
  cases l with
  | nil =>
    all_goals
      (refine sx_sound Γok _ ?_; conv => whnf)
      refine DrawVC.all Γok (by kernel_rfl) (by kernel_rfl) ?_
      (conv => whnf)
      (repeat (first | (exact Out.same; conv => whnf) | (exact Out1.same; conv => whnf) | (refine QAnd.mk ?_ ?_; conv => whnf) | (apply QStepH.go; conv => whnf) | (refine Both.lit_true ?_; conv => whnf) | (refine Both.lit_false ?_; conv => whnf) | (apply QStep.go; conv => whnf) | (refine Need.mk ?_ ?_; (focus (first | omega | exact ⟨by omega, by omega⟩ | rfl | exact ⟨rfl, rfl⟩ | exact ⟨rfl, Nat.le_of_ble_eq_true rfl⟩ | exact Nat.le_of_ble_eq_true rfl | (refine ⟨rfl, rfl, ?_⟩; simp [isFar, ofV0, CV.up, SV.renL, SV.ren] <;> fail) | (refine ⟨rfl, Nat.le_of_ble_eq_true rfl, ?_⟩; simp [isFar, ofV0, CV.up, SV.renL, SV.ren] <;> fail) | (simp <;> fail))); conv => whnf)))
      (refine ⟨_, rfl, ?_⟩; conv => whnf)
      (repeat (first | (exact Out.same; conv => whnf) | (exact Out1.same; conv => whnf) | (refine QAnd.mk ?_ ?_; conv => whnf) | (apply QStepH.go; conv => whnf) | (refine Both.lit_true ?_; conv => whnf) | (refine Both.lit_false ?_; conv => whnf) | (apply QStep.go; conv => whnf) | (refine Need.mk ?_ ?_; (focus (first | omega | exact ⟨by omega, by omega⟩ | rfl | exact ⟨rfl, rfl⟩ | exact ⟨rfl, Nat.le_of_ble_eq_true rfl⟩ | exact Nat.le_of_ble_eq_true rfl | (refine ⟨rfl, rfl, ?_⟩; simp [isFar, ofV0, CV.up, SV.renL, SV.ren] <;> fail) | (refine ⟨rfl, Nat.le_of_ble_eq_true rfl, ?_⟩; simp [isFar, ofV0, CV.up, SV.renL, SV.ren] <;> fail) | (simp <;> fail))); conv => whnf)))
      (refine ⟨_, rfl, ?_⟩; conv => whnf)
      (repeat (first | (exact Out.same; conv => whnf) | (exact Out1.same; conv => whnf) | (refine QAnd.mk ?_ ?_; conv => whnf) | (apply QStepH.go; conv => whnf) | (refine Both.lit_true ?_; conv => whnf) | (refine Both.lit_false ?_; conv => whnf) | (apply QStep.go; conv => whnf) | (refine Need.mk ?_ ?_; (focus (first | omega | exact ⟨by omega, by omega⟩ | rfl | exact ⟨rfl, rfl⟩ | exact ⟨rfl, Nat.le_of_ble_eq_true rfl⟩ | exact Nat.le_of_ble_eq_true rfl | (refine ⟨rfl, rfl, ?_⟩; simp [isFar, ofV0, CV.up, SV.renL, SV.ren] <;> fail) | (refine ⟨rfl, Nat.le_of_ble_eq_true rfl, ?_⟩; simp [isFar, ofV0, CV.up, SV.renL, SV.ren] <;> fail) | (simp <;> fail))); conv => whnf)))
      refine ⟨_, _, WeakV.to [0, 1] rfl rfl rfl rfl ?_, h⟩
      (repeat' ((conv => whnf); first | exact True.intro | (refine And.intro ?_ ?_)))
      all_goals first | rfl | exact .eq rfl | exact .pt ⟨rfl, ⟨rfl, rfl⟩, rfl, trivial⟩
  | cons b l =>
    all_goals
      (refine sx_sound Γok _ ?_; conv => whnf)
      refine DrawVC.tail Γok 10 (by kernel_rfl) (by kernel_rfl) ?_
      (conv => whnf)
      (repeat (first | (refine Both.lit_true ?_; conv => whnf) | (refine Both.lit_false ?_; conv => whnf) | (refine Need.mk ?_ ?_; (focus (first | omega | exact ⟨by omega, by omega⟩ | rfl | exact ⟨rfl, rfl⟩ | exact ⟨rfl, Nat.le_of_ble_eq_true rfl⟩ | exact Nat.le_of_ble_eq_true rfl | (refine ⟨rfl, rfl, ?_⟩; simp [isFar, ofV0, CV.up, SV.renL, SV.ren] <;> fail) | (refine ⟨rfl, Nat.le_of_ble_eq_true rfl, ?_⟩; simp [isFar, ofV0, CV.up, SV.renL, SV.ren] <;> fail) | (simp <;> fail))); conv => whnf)))
      (refine ⟨_, rfl, ?_⟩; conv => whnf)
      (repeat (first | (refine Both.lit_true ?_; conv => whnf) | (refine Both.lit_false ?_; conv => whnf) | (refine Need.mk ?_ ?_; (focus (first | omega | exact ⟨by omega, by omega⟩ | rfl | exact ⟨rfl, rfl⟩ | exact ⟨rfl, Nat.le_of_ble_eq_true rfl⟩ | exact Nat.le_of_ble_eq_true rfl | (refine ⟨rfl, rfl, ?_⟩; simp [isFar, ofV0, CV.up, SV.renL, SV.ren] <;> fail) | (refine ⟨rfl, Nat.le_of_ble_eq_true rfl, ?_⟩; simp [isFar, ofV0, CV.up, SV.renL, SV.ren] <;> fail) | (simp <;> fail))); conv => whnf)))
      try (refine Need.mk (Nat.succ_pos _) ?_; conv => whnf)
      (refine ⟨_, rfl, ?_⟩; conv => whnf)
      (repeat (first | (refine Both.lit_true ?_; conv => whnf) | (refine Both.lit_false ?_; conv => whnf) | (refine Need.mk ?_ ?_; (focus (first | omega | exact ⟨by omega, by omega⟩ | rfl | exact ⟨rfl, rfl⟩ | exact ⟨rfl, Nat.le_of_ble_eq_true rfl⟩ | exact Nat.le_of_ble_eq_true rfl | (refine ⟨rfl, rfl, ?_⟩; simp [isFar, ofV0, CV.up, SV.renL, SV.ren] <;> fail) | (refine ⟨rfl, Nat.le_of_ble_eq_true rfl, ?_⟩; simp [isFar, ofV0, CV.up, SV.renL, SV.ren] <;> fail) | (simp <;> fail))); conv => whnf)))
      refine ⟨b :: l, rfl, ?_⟩
      refine Need.mk ⟨rfl, rfl, rfl, rfl, Nat.succ_pos _, by omega, by kernel_rfl⟩ ?_
      (conv => whnf)
      (repeat (first | (refine Both.lit_true ?_; conv => whnf) | (refine Both.lit_false ?_; conv => whnf) | (refine Need.mk ?_ ?_; (focus (first | omega | exact ⟨by omega, by omega⟩ | rfl | exact ⟨rfl, rfl⟩ | exact ⟨rfl, Nat.le_of_ble_eq_true rfl⟩ | exact Nat.le_of_ble_eq_true rfl | (refine ⟨rfl, rfl, ?_⟩; simp [isFar, ofV0, CV.up, SV.renL, SV.ren] <;> fail) | (refine ⟨rfl, Nat.le_of_ble_eq_true rfl, ?_⟩; simp [isFar, ofV0, CV.up, SV.renL, SV.ren] <;> fail) | (simp <;> fail))); conv => whnf)))
      refine ⟨_, _, WeakV.to [0, 1] rfl rfl rfl rfl ?_, h⟩
      (repeat' ((conv => whnf); first | exact True.intro | (refine And.intro ?_ ?_)))
      all_goals first | rfl | exact .eq rfl | exact .pt ⟨rfl, ⟨rfl, rfl⟩, rfl, trivial⟩
theorem str_k : Contract Tryd.prog [] 63 strS := ⟨⟨⟨_, rfl, rfl, rfl⟩⟩, str_c⟩
def failS : Spec := fun args H Q => match args, H with
  | [.ptr 0 0, .int .i64 n], .cells (.int .i64 e :: r) t :: H' => (t = 75 ∨ t = 121) ∧ Q (.tuple []) (.cells (.int .i64 (if e = 0 then n else e) :: r) t :: H')
  | _, _ => False
theorem fail_c : Meets Tryd.prog [] 59 failS := by
  refine meets_of Γok Tryd.func59 rfl ?_
  intro args H Q h
  unfold failS at h
  split at h
  case h_2 => exact h.elim
  obtain ⟨ht, h⟩ := h
  rcases ht with rfl | rfl
  all_goals
    (refine sx_sound Γok _ ?_; conv => whnf)
    (refine ⟨_, rfl, ?_⟩; conv => whnf)
    refine Both.dec (fun he => ?_) (fun he => ?_)
    · (conv => whnf)
      (repeat (first | (refine Both.lit_true ?_; conv => whnf) | (refine Both.lit_false ?_; conv => whnf) | (refine Need.mk ?_ ?_; (focus (first | omega | exact ⟨by omega, by omega⟩ | rfl | exact ⟨rfl, rfl⟩ | exact ⟨rfl, Nat.le_of_ble_eq_true rfl⟩ | exact Nat.le_of_ble_eq_true rfl | (refine ⟨rfl, rfl, ?_⟩; simp [isFar, ofV0, CV.up, SV.renL, SV.ren] <;> fail) | (refine ⟨rfl, Nat.le_of_ble_eq_true rfl, ?_⟩; simp [isFar, ofV0, CV.up, SV.renL, SV.ren] <;> fail) | (simp <;> fail))); conv => whnf)))
      rw [if_pos he] at h
      exact ⟨_, _, WeakV.refl _ _ _ _, h⟩
    · (conv => whnf)
      rw [if_neg he] at h
      exact ⟨_, _, WeakV.refl _ _ _ _, h⟩
theorem fail_k : Contract Tryd.prog [] 59 failS := ⟨⟨⟨_, rfl, rfl, rfl⟩⟩, fail_c⟩
def errS : Spec := fun args H Q => match args, H with
  | [.ptr 0 0], .cells (.int .i64 e :: r) t :: H' => (t = 75 ∨ t = 121) ∧ Q (.int .i64 e) (.cells (.int .i64 e :: r) t :: H')
  | _, _ => False
theorem err_c : Meets Tryd.prog [] 62 errS := by
  refine meets_of Γok Tryd.func62 rfl ?_
  intro args H Q h
  unfold errS at h
  split at h
  case h_2 => exact h.elim
  obtain ⟨ht, h⟩ := h
  rcases ht with rfl | rfl
  all_goals
    (refine sx_sound Γok _ ?_; conv => whnf)
    (refine ⟨_, rfl, ?_⟩; conv => whnf)
    exact ⟨_, _, WeakV.refl _ _ _ _, h⟩
theorem err_k : Contract Tryd.prog [] 62 errS := ⟨⟨⟨_, rfl, rfl, rfl⟩⟩, err_c⟩
def beb (n : Nat) : Nat → List UInt8
  | 0 => []
  | k + 1 => UInt8.ofNat (n / 256 ^ k) :: beb n k
theorem beb_length (n : Nat) : ∀ k, (beb n k).length = k
  | 0 => rfl
  | k + 1 => by rw [beb, List.length_cons, beb_length n k]
theorem beb_get (n : Nat) : ∀ (k j : Nat), j < k → (beb n k)[j]? = some (UInt8.ofNat (n / 256 ^ (k - 1 - j)))
  | 0, j, h => by omega
  | k + 1, 0, h => by simp [beb]
  | k + 1, j + 1, h => by
    rw [beb, List.getElem?_cons_succ, beb_get n k j (by omega)]
    congr 4
    omega
theorem beb_take (n k j : Nat) (h : j < k) : (beb n k).take j ++ [UInt8.ofNat (n / 256 ^ (k - 1 - j))] = (beb n k).take (j + 1) := by
  have hl : j < (beb n k).length := by rw [beb_length]; exact h
  rw [List.take_succ_eq_append_getElem hl]
  congr 2
  have := beb_get n k j h
  rw [List.getElem?_eq_getElem hl] at this
  exact (Option.some.inj this).symm
def wr (e : Int) (l : List UInt8) : List LObj := [.cells [.int .i64 e, .opt 0 1, .own 1] 75, .own 5 1 l.length (bys l) true]
def wrN (e : Int) (l : List UInt8) : List LObj := [.cells [.int .i64 e, .opt 0 1, .own 2] 75, .gone, .own 5 1 l.length (bys l) true]
def putS : Spec := fun args H Q => match args, H with
  | [.ptr 0 0, .int .u64 n, .int .i64 k], [.cells [.int .i64 e, .opt 0 1, .own 1] 75, .own 5 1 m xs true] => ∃ (l : List UInt8) (v c : Nat), xs = bys l ∧ m = l.length ∧ l.length < 100000000 ∧ n = v ∧ v < 18446744073709551616 ∧ k = c ∧ 0 < c ∧ c ≤ 8 ∧
    Q (.tuple []) (wrN e (l ++ beb v c))
  | _, _ => False
theorem byte_go (v k : Nat) (hk : k ≤ 7) : IntKind.u8.wrap (shrI .u64 (v : Int) (8 * (k : Int))) = ((UInt8.ofNat (v / 256 ^ k)).toNat : Int) := by
  unfold shrI
  have : min (8 * (k : Int)).toNat IntKind.u64.bits = 8 * k := by
    simp only [IntKind.bits]
    omega
  rw [this, Int.fdiv_eq_ediv_of_nonneg _ (by exact Int.pow_nonneg (by decide)), wrap_u8_mod, show ((2 : Int) ^ (8 * k)) = ((256 ^ k : Nat) : Int) by rw [show (256 : Nat) = 2 ^ 8 from rfl, ← Nat.pow_mul]; simp]
  simp
theorem put_c : Meets Tryd.prog [] 60 putS := by
  refine meets_of Γok Tryd.func60 rfl ?_
  intro args H Q h
  unfold putS at h
  split at h
  case h_2 => exact h.elim
  rename_i e m xs
  obtain ⟨l, v, c, rfl, rfl, hl, rfl, hv, rfl, hc, hc8, h⟩ := h
  (refine sx_sound Γok _ ?_; conv => whnf)
  rw [wrap_i64 (n := (c : Int) - 1) (by omega) (by omega)]
  refine loop_rule (fun j : Nat => ⟨[.ptr 0 0, .int .u64 (v : Int), .any, .any, .any, .any, .int .i64 ((c : Int) - 1 - j), .any, .any, .any, .any, .any, .any, .any, .any, .any, .any, .any, .any, .any, .any, .any], wrN e (l ++ (beb v c).take j)⟩) (fun j => j ≤ c) (fun j => c - j) 0 (by omega) ?_ ?_
  · refine (Weak.fresh 1 0 2 rfl rfl rfl).trans (Weak.le ?_ ?_)
    · (repeat' ((conv => whnf); first | exact True.intro | (refine And.intro ?_ ?_)))
      all_goals first | rfl | (congr 1; omega)
    · (repeat' ((conv => whnf); first | exact True.intro | (refine And.intro ?_ ?_)))
      all_goals first | rfl | exact .eq rfl | exact .pt ⟨rfl, ⟨rfl, rfl⟩, rfl, trivial⟩ | (rw [List.take_zero, List.append_nil])
  · intro j hj
    (refine sx_sound Γok _ ?_; conv => whnf)
    refine Both.dec (fun hlt => ?_) (fun hge => ?_)
    · (conv => whnf)
      refine DrawVC.tail Γok 8 (by kernel_rfl) (by kernel_rfl) ?_
      (conv => whnf)
      rw [show (c : Int) - 1 - j = ((c - 1 - j : Nat) : Int) by omega, wrap_i64 (n := 8 * ((c - 1 - j : Nat) : Int)) (by omega) (by omega)]
      (repeat (first | (refine Both.lit_true ?_; conv => whnf) | (refine Both.lit_false ?_; conv => whnf) | (refine Need.mk ?_ ?_; (focus (first | omega | exact ⟨by omega, by omega⟩ | rfl | exact ⟨rfl, rfl⟩ | exact ⟨rfl, Nat.le_of_ble_eq_true rfl⟩ | exact Nat.le_of_ble_eq_true rfl | (refine ⟨rfl, rfl, ?_⟩; simp [isFar, ofV0, CV.up, SV.renL, SV.ren] <;> fail) | (refine ⟨rfl, Nat.le_of_ble_eq_true rfl, ?_⟩; simp [isFar, ofV0, CV.up, SV.renL, SV.ren] <;> fail) | (simp <;> fail))); conv => whnf)))
      rw [byte_go v (c - 1 - j) (by omega)]
      refine CallVC.of [0, 2] wb_k ⟨_, _, rfl, rfl, rfl, by simp; omega, ?_⟩
      (conv => whnf)
      refine ⟨j + 1, by omega, by omega, Weak.to [0, 1, 3] rfl rfl rfl ?_ ?_⟩
      · (repeat' ((conv => whnf); first | exact True.intro | (refine And.intro ?_ ?_)))
        all_goals first | rfl | exact congrArg (SV.int .i64) (by rw [wrap_i64 (by omega) (by omega)]; omega)
      · (repeat' ((conv => whnf); first | exact True.intro | (refine And.intro ?_ ?_)))
        all_goals first | rfl | exact .eq rfl | exact .pt ⟨rfl, ⟨rfl, rfl⟩, rfl, trivial⟩ | (refine Eq.trans (b := LObj.own 5 1 ((l ++ (beb v c).take j).length + 1) (bys ((l ++ (beb v c).take j) ++ [UInt8.ofNat (v / 256 ^ (c - 1 - j))])) true) rfl ?_; rw [List.append_assoc, beb_take v c j (by omega)]; congr 1; simp [beb_length]; omega)
    · obtain rfl : j = c := by omega
      (conv => whnf)
      refine ⟨_, _, WeakV.refl _ _ _ _, ?_⟩
      rw [List.take_of_length_le (by rw [beb_length]; omega)]
      exact h
theorem put_k : Contract Tryd.prog [] 60 putS := ⟨⟨⟨_, rfl, rfl, rfl⟩⟩, put_c⟩
def errOf (e : Int) : Int := if e = 0 then 1 else e
def wrS (bd : Nat) (args : List SV) (ok : Bool) (more : List UInt8) (H : List LObj) (Q : SV → List LObj → Prop) : Prop :=
  match H with
  | [.cells [.int .i64 e, .opt 0 1, .own 1] 75, .own 5 1 m xs true] => ∃ l : List UInt8, xs = bys l ∧ m = l.length ∧ l.length < bd ∧
    Q (.tuple []) (match ok with
      | true => wrN e (l ++ more)
      | false => wrN (errOf e) l)
  | _ => False
def rawS : Spec := fun args H Q => match args with
  | [.ptr 0 0, .str s] => s.length < 10000000 ∧ wrS 20000000 args true s H Q
  | _ => False
theorem raw_c : Meets Tryd.prog [] 34 rawS := by
  refine meets_of Γok Tryd.func34 rfl ?_
  intro args H Q h
  unfold rawS at h
  split at h
  case h_2 => exact h.elim
  obtain ⟨hs, h⟩ := h
  unfold wrS at h
  split at h
  case h_2 => exact h.elim
  rename_i s _ _ e m xs
  obtain ⟨l, rfl, rfl, hl, h⟩ := h
  all_goals
    (refine sx_sound Γok _ ?_; conv => whnf)
    refine CallVC.of [0, 1] ws_k ⟨_, rfl, rfl, by omega, by omega, ?_⟩
    (conv => whnf)
    refine ⟨_, _, WeakV.to [0, 1, 2] rfl rfl rfl rfl ?_, h⟩
    (repeat' ((conv => whnf); first | exact True.intro | (refine And.intro ?_ ?_)))
    all_goals first | rfl | exact .eq rfl | exact .pt ⟨rfl, ⟨rfl, rfl⟩, rfl, trivial⟩ | (rw [List.length_append]; rfl)
theorem raw_k : Contract Tryd.prog [] 34 rawS := ⟨⟨⟨_, rfl, rfl, rfl⟩⟩, raw_c⟩
def numS : Spec := fun args H Q => match args with
  | [.ptr 0 0, .int .u64 n] => ∃ v : Nat, n = v ∧ v < 18446744073709551616 ∧ wrS 10000000 args true (beb v 8) H Q
  | _ => False
theorem num_c : Meets Tryd.prog [] 32 numS := by
  refine meets_of Γok Tryd.func32 rfl ?_
  intro args H Q h
  unfold numS at h
  split at h
  case h_2 => exact h.elim
  obtain ⟨v, rfl, hv, h⟩ := h
  unfold wrS at h
  split at h
  case h_2 => exact h.elim
  rename_i _ _ e m xs
  obtain ⟨l, rfl, rfl, hl, h⟩ := h
  all_goals
    (refine sx_sound Γok _ ?_; conv => whnf)
    refine CallVC.of [0, 1] put_k ⟨l, v, 8, rfl, rfl, by omega, rfl, hv, rfl, by omega, by omega, ?_⟩
    (conv => whnf)
    refine ⟨_, _, WeakV.to [0, 1, 2] rfl rfl rfl rfl ?_, h⟩
    (repeat' ((conv => whnf); first | exact True.intro | (refine And.intro ?_ ?_)))
    all_goals first | rfl | exact .eq rfl | exact .pt ⟨rfl, ⟨rfl, rfl⟩, rfl, trivial⟩
theorem num_k : Contract Tryd.prog [] 32 numS := ⟨⟨⟨_, rfl, rfl, rfl⟩⟩, num_c⟩
def byteS : Spec := fun args H Q => match args with
  | [.ptr 0 0, .int .i64 n] => wrS 10000000 args (decide (0 ≤ n ∧ n ≤ 255)) [UInt8.ofNat n.toNat] H Q
  | _ => False
theorem byte_c : Meets Tryd.prog [] 31 byteS := by
  refine meets_of Γok Tryd.func31 rfl ?_
  intro args H Q h
  unfold byteS at h
  split at h
  case h_2 => exact h.elim
  unfold wrS at h
  split at h
  case h_2 => exact h.elim
  rename_i n _ e m xs
  obtain ⟨l, rfl, rfl, hl, h⟩ := h
  all_goals
    (refine sx_sound Γok _ ?_; conv => whnf)
    refine Both.dec (fun h0 => ?_) (fun h0 => ?_)
    · (conv => whnf)
      (repeat (first | (refine Both.lit_true ?_; conv => whnf) | (refine Both.lit_false ?_; conv => whnf) | (refine Need.mk ?_ ?_; (focus (first | omega | exact ⟨by omega, by omega⟩ | rfl | exact ⟨rfl, rfl⟩ | exact ⟨rfl, Nat.le_of_ble_eq_true rfl⟩ | exact Nat.le_of_ble_eq_true rfl | (refine ⟨rfl, rfl, ?_⟩; simp [isFar, ofV0, CV.up, SV.renL, SV.ren] <;> fail) | (refine ⟨rfl, Nat.le_of_ble_eq_true rfl, ?_⟩; simp [isFar, ofV0, CV.up, SV.renL, SV.ren] <;> fail) | (simp <;> fail))); conv => whnf)))
      refine CallVC.of [0, 1] fail_k ⟨.inl rfl, ?_⟩
      (conv => whnf)
      rw [decide_eq_false (by omega)] at h
      exact ⟨_, _, WeakV.of (Weak.fresh 1 0 2 rfl rfl rfl), h⟩
    · (conv => whnf)
      (repeat (first | (refine Both.lit_true ?_; conv => whnf) | (refine Both.lit_false ?_; conv => whnf) | (refine Need.mk ?_ ?_; (focus (first | omega | exact ⟨by omega, by omega⟩ | rfl | exact ⟨rfl, rfl⟩ | exact ⟨rfl, Nat.le_of_ble_eq_true rfl⟩ | exact Nat.le_of_ble_eq_true rfl | (refine ⟨rfl, rfl, ?_⟩; simp [isFar, ofV0, CV.up, SV.renL, SV.ren] <;> fail) | (refine ⟨rfl, Nat.le_of_ble_eq_true rfl, ?_⟩; simp [isFar, ofV0, CV.up, SV.renL, SV.ren] <;> fail) | (simp <;> fail))); conv => whnf)))
      refine Both.dec (fun h1 => ?_) (fun h1 => ?_)
      · (conv => whnf)
        (repeat (first | (refine Both.lit_true ?_; conv => whnf) | (refine Both.lit_false ?_; conv => whnf) | (refine Need.mk ?_ ?_; (focus (first | omega | exact ⟨by omega, by omega⟩ | rfl | exact ⟨rfl, rfl⟩ | exact ⟨rfl, Nat.le_of_ble_eq_true rfl⟩ | exact Nat.le_of_ble_eq_true rfl | (refine ⟨rfl, rfl, ?_⟩; simp [isFar, ofV0, CV.up, SV.renL, SV.ren] <;> fail) | (refine ⟨rfl, Nat.le_of_ble_eq_true rfl, ?_⟩; simp [isFar, ofV0, CV.up, SV.renL, SV.ren] <;> fail) | (simp <;> fail))); conv => whnf)))
        refine CallVC.of [0, 1] fail_k ⟨.inl rfl, ?_⟩
        (conv => whnf)
        rw [decide_eq_false (by omega)] at h
        exact ⟨_, _, WeakV.of (Weak.fresh 1 0 2 rfl rfl rfl), h⟩
      · (conv => whnf)
        (repeat (first | (refine Both.lit_true ?_; conv => whnf) | (refine Both.lit_false ?_; conv => whnf) | (refine Need.mk ?_ ?_; (focus (first | omega | exact ⟨by omega, by omega⟩ | rfl | exact ⟨rfl, rfl⟩ | exact ⟨rfl, Nat.le_of_ble_eq_true rfl⟩ | exact Nat.le_of_ble_eq_true rfl | (refine ⟨rfl, rfl, ?_⟩; simp [isFar, ofV0, CV.up, SV.renL, SV.ren] <;> fail) | (refine ⟨rfl, Nat.le_of_ble_eq_true rfl, ?_⟩; simp [isFar, ofV0, CV.up, SV.renL, SV.ren] <;> fail) | (simp <;> fail))); conv => whnf)))
        obtain ⟨v, rfl⟩ : ∃ v : Nat, n = v := ⟨n.toNat, by omega⟩
        rw [wrap_u64 (by omega) (by omega)]
        refine CallVC.of [0, 1] put_k ⟨l, v, 1, rfl, rfl, by omega, rfl, by omega, rfl, by omega, by omega, ?_⟩
        (conv => whnf)
        rw [decide_eq_true (by omega)] at h
        refine ⟨_, _, WeakV.to [0, 1, 2] rfl rfl rfl rfl ?_, h⟩
        (repeat' ((conv => whnf); first | exact True.intro | (refine And.intro ?_ ?_)))
        all_goals first | rfl | exact .eq rfl | exact .pt ⟨rfl, ⟨rfl, rfl⟩, rfl, trivial⟩ | (rw [show beb v 1 = [UInt8.ofNat ((v : Int)).toNat] by simp [beb]]; rfl)
theorem byte_k : Contract Tryd.prog [] 31 byteS := ⟨⟨⟨_, rfl, rfl, rfl⟩⟩, byte_c⟩
def textS : Spec := fun args H Q => match args with
  | [.ptr 0 0, .str s] => wrS 10000000 args (decide (s.length ≤ 65535)) (beb s.length 2 ++ s) H Q
  | _ => False
theorem text_c : Meets Tryd.prog [] 33 textS := by
  refine meets_of Γok Tryd.func33 rfl ?_
  intro args H Q h
  unfold textS at h
  split at h
  case h_2 => exact h.elim
  unfold wrS at h
  split at h
  case h_2 => exact h.elim
  rename_i s _ e m xs
  obtain ⟨l, rfl, rfl, hl, h⟩ := h
  all_goals
    (refine sx_sound Γok _ ?_; conv => whnf)
    refine Both.dec (fun h0 => ?_) (fun h0 => ?_)
    · (conv => whnf)
      (repeat (first | (refine Both.lit_true ?_; conv => whnf) | (refine Both.lit_false ?_; conv => whnf) | (refine Need.mk ?_ ?_; (focus (first | omega | exact ⟨by omega, by omega⟩ | rfl | exact ⟨rfl, rfl⟩ | exact ⟨rfl, Nat.le_of_ble_eq_true rfl⟩ | exact Nat.le_of_ble_eq_true rfl | (refine ⟨rfl, rfl, ?_⟩; simp [isFar, ofV0, CV.up, SV.renL, SV.ren] <;> fail) | (refine ⟨rfl, Nat.le_of_ble_eq_true rfl, ?_⟩; simp [isFar, ofV0, CV.up, SV.renL, SV.ren] <;> fail) | (simp <;> fail))); conv => whnf)))
      refine CallVC.of [0, 1] fail_k ⟨.inl rfl, ?_⟩
      (conv => whnf)
      rw [decide_eq_false (by omega)] at h
      exact ⟨_, _, WeakV.of (Weak.fresh 1 0 2 rfl rfl rfl), h⟩
    · (conv => whnf)
      (repeat (first | (refine Both.lit_true ?_; conv => whnf) | (refine Both.lit_false ?_; conv => whnf) | (refine Need.mk ?_ ?_; (focus (first | omega | exact ⟨by omega, by omega⟩ | rfl | exact ⟨rfl, rfl⟩ | exact ⟨rfl, Nat.le_of_ble_eq_true rfl⟩ | exact Nat.le_of_ble_eq_true rfl | (refine ⟨rfl, rfl, ?_⟩; simp [isFar, ofV0, CV.up, SV.renL, SV.ren] <;> fail) | (refine ⟨rfl, Nat.le_of_ble_eq_true rfl, ?_⟩; simp [isFar, ofV0, CV.up, SV.renL, SV.ren] <;> fail) | (simp <;> fail))); conv => whnf)))
      rw [wrap_u64 (by omega) (by omega)]
      refine CallVC.of [0, 1] put_k ⟨l, s.length, 2, rfl, rfl, by omega, rfl, by omega, rfl, by omega, by omega, ?_⟩
      (conv => whnf)
      refine CallVC.of [0, 2] raw_k ⟨by omega, l ++ beb s.length 2, rfl, rfl, by rw [List.length_append, beb_length]; omega, ?_⟩
      (conv => whnf)
      rw [decide_eq_true (by omega)] at h
      refine ⟨_, _, WeakV.to [0, 1, 3] rfl rfl rfl rfl ?_, h⟩
      (repeat' ((conv => whnf); first | exact True.intro | (refine And.intro ?_ ?_)))
      all_goals first | rfl | exact .eq rfl | exact .pt ⟨rfl, ⟨rfl, rfl⟩, rfl, trivial⟩ | (rw [← List.append_assoc]; rfl)
theorem text_k : Contract Tryd.prog [] 33 textS := ⟨⟨⟨_, rfl, rfl, rfl⟩⟩, text_c⟩
def bytesS : Spec := fun args H Q => match args, H with
  | [.ptr 0 0], [.cells [.int .i64 e, .opt 0 1, .own 1] 75, .own 5 1 m xs true] => ∃ l : List UInt8, xs = bys l ∧ m = l.length ∧ l.length < 1000000000 ∧
    Q (.tuple [.str (if e = 0 then l else []), .int .i64 e]) [.cells [.int .i64 e, .opt 0 1, .own 1] 75, .gone]
  | _, _ => False
theorem bytes_c : Meets Tryd.prog [] 35 bytesS := by
  refine meets_of Γok Tryd.func35 rfl ?_
  intro args H Q h
  unfold bytesS at h
  split at h
  case h_2 => exact h.elim
  rename_i e m xs
  obtain ⟨l, rfl, rfl, hl, h⟩ := h
  all_goals
    (refine sx_sound Γok _ ?_; conv => whnf)
    refine CallVC.of [0, 1] err_k ⟨.inl rfl, ?_⟩
    (conv => whnf)
    refine Both.dec_not (fun h0 => ?_) (fun h0 => ?_)
    · (conv => whnf)
      rw [if_neg h0] at h
      refine ⟨_, _, WeakV.to [0, 1] rfl rfl rfl rfl ?_, h⟩
      (repeat' ((conv => whnf); first | exact True.intro | (refine And.intro ?_ ?_)))
      all_goals first | rfl | exact .eq rfl | exact .pt ⟨rfl, ⟨rfl, rfl⟩, rfl, trivial⟩
    · (conv => whnf)
      subst h0
      (repeat (first | (refine Both.lit_true ?_; conv => whnf) | (refine Both.lit_false ?_; conv => whnf) | (refine Need.mk ?_ ?_; (focus (first | omega | exact ⟨by omega, by omega⟩ | rfl | exact ⟨rfl, rfl⟩ | exact ⟨rfl, Nat.le_of_ble_eq_true rfl⟩ | exact Nat.le_of_ble_eq_true rfl | (refine ⟨rfl, rfl, ?_⟩; simp [isFar, ofV0, CV.up, SV.renL, SV.ren] <;> fail) | (refine ⟨rfl, Nat.le_of_ble_eq_true rfl, ?_⟩; simp [isFar, ofV0, CV.up, SV.renL, SV.ren] <;> fail) | (simp <;> fail))); conv => whnf)))
      refine CallVC.of [0, 1] str_k ⟨_, rfl, rfl, by omega, ?_⟩
      (conv => whnf)
      refine ⟨_, _, WeakV.to [0, 1] rfl rfl rfl rfl ?_, h⟩
      (repeat' ((conv => whnf); first | exact True.intro | (refine And.intro ?_ ?_)))
      all_goals first | rfl | exact .eq rfl | exact .pt ⟨rfl, ⟨rfl, rfl⟩, rfl, trivial⟩
theorem bytes_k : Contract Tryd.prog [] 35 bytesS := ⟨⟨⟨_, rfl, rfl, rfl⟩⟩, bytes_c⟩
end Go.LX
end
section
set_option maxRecDepth 100000
set_option maxHeartbeats 4000000
set_option autoImplicit false
set_option linter.unusedVariables false
set_option linter.unusedSimpArgs false
namespace Go.LX
open Go.Proofs

def rd (e : Int) (s : List UInt8) : List LObj := [.cells [.int .i64 e, .str s] 121]
def rdOk (e n : Int) (s : List UInt8) : Bool := decide (e = 0 ∧ 0 ≤ n ∧ n ≤ s.length)
def rdE (e n : Int) (s : List UInt8) : Int := if e = 0 then (if 0 ≤ n ∧ n ≤ s.length then 0 else 6) else e
def rdT (e n : Int) (s : List UInt8) : List UInt8 := if rdOk e n s then s.take n.toNat else []
def rdS (e n : Int) (s : List UInt8) : List UInt8 := if rdOk e n s then s.drop n.toNat else s
def rrawS : Spec := fun args H Q => match args, H with
  | [.ptr 0 0, .int .i64 n], [.cells [.int .i64 e, .str s] 121] => s.length < 1000000 ∧ Q (.str (rdT e n s)) (rd (rdE e n s) (rdS e n s))
  | _, _ => False
theorem rraw_c : Meets Tryd.prog [] 67 rrawS := by
  refine meets_of Γok Tryd.func67 rfl ?_
  intro args H Q h
  unfold rrawS at h
  split at h
  case h_2 => exact h.elim
  rename_i n e s
  obtain ⟨hs, h⟩ := h
  have bad : ∀ h0 : ¬ (0 ≤ n ∧ n ≤ s.length), rdT e n s = [] ∧ rdS e n s = s ∧ rdE e n s = (if e = 0 then 6 else e) := by
    intro h0
    have : rdOk e n s = false := decide_eq_false (by omega)
    simp [rdT, rdS, rdE, this, h0]
  (refine sx_sound Γok _ ?_; conv => whnf)
  refine Both.dec (fun h0 => ?_) (fun h0 => ?_)
  · (conv => whnf)
    (repeat (first | (refine Both.lit_true ?_; conv => whnf) | (refine Both.lit_false ?_; conv => whnf) | (refine Need.mk ?_ ?_; (focus (first | omega | exact ⟨by omega, by omega⟩ | rfl | exact ⟨rfl, rfl⟩ | exact ⟨rfl, Nat.le_of_ble_eq_true rfl⟩ | exact Nat.le_of_ble_eq_true rfl | (refine ⟨rfl, rfl, ?_⟩; simp [isFar, ofV0, CV.up, SV.renL, SV.ren] <;> fail) | (refine ⟨rfl, Nat.le_of_ble_eq_true rfl, ?_⟩; simp [isFar, ofV0, CV.up, SV.renL, SV.ren] <;> fail) | (simp <;> fail))); conv => whnf)))
    refine CallVC.of [0] fail_k ⟨.inr rfl, ?_⟩
    (conv => whnf)
    refine CallVC.of [0] err_k ⟨.inr rfl, ?_⟩
    (conv => whnf)
    refine Both.of_true (by rw [Bool.not_eq_true', decide_eq_false_iff_not]; split <;> omega) ?_
    (conv => whnf)
    obtain ⟨b1, b2, b3⟩ := bad (by omega)
    rw [b1, b2, b3] at h
    exact ⟨_, _, WeakV.refl _ _ _ _, h⟩
  · (conv => whnf)
    (repeat (first | (refine Both.lit_true ?_; conv => whnf) | (refine Both.lit_false ?_; conv => whnf) | (refine Need.mk ?_ ?_; (focus (first | omega | exact ⟨by omega, by omega⟩ | rfl | exact ⟨rfl, rfl⟩ | exact ⟨rfl, Nat.le_of_ble_eq_true rfl⟩ | exact Nat.le_of_ble_eq_true rfl | (refine ⟨rfl, rfl, ?_⟩; simp [isFar, ofV0, CV.up, SV.renL, SV.ren] <;> fail) | (refine ⟨rfl, Nat.le_of_ble_eq_true rfl, ?_⟩; simp [isFar, ofV0, CV.up, SV.renL, SV.ren] <;> fail) | (simp <;> fail))); conv => whnf)))
    (refine ⟨_, rfl, ?_⟩; conv => whnf)
    (repeat (first | (refine Both.lit_true ?_; conv => whnf) | (refine Both.lit_false ?_; conv => whnf) | (refine Need.mk ?_ ?_; (focus (first | omega | exact ⟨by omega, by omega⟩ | rfl | exact ⟨rfl, rfl⟩ | exact ⟨rfl, Nat.le_of_ble_eq_true rfl⟩ | exact Nat.le_of_ble_eq_true rfl | (refine ⟨rfl, rfl, ?_⟩; simp [isFar, ofV0, CV.up, SV.renL, SV.ren] <;> fail) | (refine ⟨rfl, Nat.le_of_ble_eq_true rfl, ?_⟩; simp [isFar, ofV0, CV.up, SV.renL, SV.ren] <;> fail) | (simp <;> fail))); conv => whnf)))
    refine Both.dec (fun h1 => ?_) (fun h1 => ?_)
    · (conv => whnf)
      (repeat (first | (refine Both.lit_true ?_; conv => whnf) | (refine Both.lit_false ?_; conv => whnf) | (refine Need.mk ?_ ?_; (focus (first | omega | exact ⟨by omega, by omega⟩ | rfl | exact ⟨rfl, rfl⟩ | exact ⟨rfl, Nat.le_of_ble_eq_true rfl⟩ | exact Nat.le_of_ble_eq_true rfl | (refine ⟨rfl, rfl, ?_⟩; simp [isFar, ofV0, CV.up, SV.renL, SV.ren] <;> fail) | (refine ⟨rfl, Nat.le_of_ble_eq_true rfl, ?_⟩; simp [isFar, ofV0, CV.up, SV.renL, SV.ren] <;> fail) | (simp <;> fail))); conv => whnf)))
      refine CallVC.of [0] fail_k ⟨.inr rfl, ?_⟩
      (conv => whnf)
      refine CallVC.of [0] err_k ⟨.inr rfl, ?_⟩
      (conv => whnf)
      refine Both.of_true (by rw [Bool.not_eq_true', decide_eq_false_iff_not]; split <;> omega) ?_
      (conv => whnf)
      obtain ⟨b1, b2, b3⟩ := bad (by omega)
      rw [b1, b2, b3] at h
      exact ⟨_, _, WeakV.refl _ _ _ _, h⟩
    · (conv => whnf)
      (repeat (first | (refine Both.lit_true ?_; conv => whnf) | (refine Both.lit_false ?_; conv => whnf) | (refine Need.mk ?_ ?_; (focus (first | omega | exact ⟨by omega, by omega⟩ | rfl | exact ⟨rfl, rfl⟩ | exact ⟨rfl, Nat.le_of_ble_eq_true rfl⟩ | exact Nat.le_of_ble_eq_true rfl | (refine ⟨rfl, rfl, ?_⟩; simp [isFar, ofV0, CV.up, SV.renL, SV.ren] <;> fail) | (refine ⟨rfl, Nat.le_of_ble_eq_true rfl, ?_⟩; simp [isFar, ofV0, CV.up, SV.renL, SV.ren] <;> fail) | (simp <;> fail))); conv => whnf)))
      refine CallVC.of [0] err_k ⟨.inr rfl, ?_⟩
      (conv => whnf)
      refine Both.dec_not (fun he => ?_) (fun he => ?_)
      · (conv => whnf)
        rw [show rdT e n s = [] by simp [rdT, rdOk, he], show rdS e n s = s by simp [rdS, rdOk, he], show rdE e n s = e by simp [rdE, he]] at h
        exact ⟨_, _, WeakV.refl _ _ _ _, h⟩
      · (conv => whnf)
        subst he
        have hok : rdOk 0 n s = true := decide_eq_true ⟨rfl, by omega, by omega⟩
        (repeat (first | (refine Both.lit_true ?_; conv => whnf) | (refine Both.lit_false ?_; conv => whnf) | (refine Need.mk ?_ ?_; (focus (first | omega | exact ⟨by omega, by omega⟩ | rfl | exact ⟨rfl, rfl⟩ | exact ⟨rfl, Nat.le_of_ble_eq_true rfl⟩ | exact Nat.le_of_ble_eq_true rfl | (refine ⟨rfl, rfl, ?_⟩; simp [isFar, ofV0, CV.up, SV.renL, SV.ren] <;> fail) | (refine ⟨rfl, Nat.le_of_ble_eq_true rfl, ?_⟩; simp [isFar, ofV0, CV.up, SV.renL, SV.ren] <;> fail) | (simp <;> fail))); conv => whnf)))
        (refine ⟨_, rfl, ?_⟩; conv => whnf)
        refine Need.mk ⟨by omega, by omega, by omega⟩ ?_
        (conv => whnf)
        (repeat (first | (refine Both.lit_true ?_; conv => whnf) | (refine Both.lit_false ?_; conv => whnf) | (refine Need.mk ?_ ?_; (focus (first | omega | exact ⟨by omega, by omega⟩ | rfl | exact ⟨rfl, rfl⟩ | exact ⟨rfl, Nat.le_of_ble_eq_true rfl⟩ | exact Nat.le_of_ble_eq_true rfl | (refine ⟨rfl, rfl, ?_⟩; simp [isFar, ofV0, CV.up, SV.renL, SV.ren] <;> fail) | (refine ⟨rfl, Nat.le_of_ble_eq_true rfl, ?_⟩; simp [isFar, ofV0, CV.up, SV.renL, SV.ren] <;> fail) | (simp <;> fail))); conv => whnf)))
        (refine ⟨_, rfl, ?_⟩; conv => whnf)
        refine Need.mk ⟨by omega, by omega, by omega⟩ ?_
        (conv => whnf)
        (repeat (first | (refine Both.lit_true ?_; conv => whnf) | (refine Both.lit_false ?_; conv => whnf) | (refine Need.mk ?_ ?_; (focus (first | omega | exact ⟨by omega, by omega⟩ | rfl | exact ⟨rfl, rfl⟩ | exact ⟨rfl, Nat.le_of_ble_eq_true rfl⟩ | exact Nat.le_of_ble_eq_true rfl | (refine ⟨rfl, rfl, ?_⟩; simp [isFar, ofV0, CV.up, SV.renL, SV.ren] <;> fail) | (refine ⟨rfl, Nat.le_of_ble_eq_true rfl, ?_⟩; simp [isFar, ofV0, CV.up, SV.renL, SV.ren] <;> fail) | (simp <;> fail))); conv => whnf)))
        rw [show rdT 0 n s = s.take n.toNat by simp [rdT, hok], show rdS 0 n s = s.drop n.toNat by simp [rdS, hok], show rdE 0 n s = 0 by simp [rdE]; omega] at h
        refine ⟨_, _, WeakV.to [0] rfl rfl rfl ?_ ?_, h⟩
        · exact congrArg SV.str rfl
        · (repeat' ((conv => whnf); first | exact True.intro | (refine And.intro ?_ ?_)))
          all_goals first | rfl | exact .eq rfl | (refine .eq ?_; rw [show List.drop n.toNat s = List.drop n.toNat (List.take (s.length : Int).toNat s) by rw [Int.toNat_natCast, List.take_length]]; rfl)
theorem rraw_k : Contract Tryd.prog [] 67 rrawS := ⟨⟨⟨_, rfl, rfl, rfl⟩⟩, rraw_c⟩
def rdLeft (e : Int) (s : List UInt8) : Int := if e = 0 then s.length else 0
def rdEnd (e : Int) (s : List UInt8) : Int := if 0 < rdLeft e s then 7 else e
def leftS : Spec := fun args H Q => match args, H with
  | [.ptr 0 0], [.cells [.int .i64 e, .str s] 121] => Q (.int .i64 (rdLeft e s)) (rd e s)
  | _, _ => False
theorem left_c : Meets Tryd.prog [] 68 leftS := by
  refine meets_of Γok Tryd.func68 rfl ?_
  intro args H Q h
  unfold leftS at h
  split at h
  case h_2 => exact h.elim
  (refine sx_sound Γok _ ?_; conv => whnf)
  refine CallVC.of [0] err_k ⟨.inr rfl, ?_⟩
  (conv => whnf)
  refine Both.dec_not (fun he => ?_) (fun he => ?_)
  · (conv => whnf)
    rw [rdLeft, if_neg he] at h
    exact ⟨_, _, WeakV.refl _ _ _ _, h⟩
  · (conv => whnf)
    (repeat (first | (refine Both.lit_true ?_; conv => whnf) | (refine Both.lit_false ?_; conv => whnf) | (refine Need.mk ?_ ?_; (focus (first | omega | exact ⟨by omega, by omega⟩ | rfl | exact ⟨rfl, rfl⟩ | exact ⟨rfl, Nat.le_of_ble_eq_true rfl⟩ | exact Nat.le_of_ble_eq_true rfl | (refine ⟨rfl, rfl, ?_⟩; simp [isFar, ofV0, CV.up, SV.renL, SV.ren] <;> fail) | (refine ⟨rfl, Nat.le_of_ble_eq_true rfl, ?_⟩; simp [isFar, ofV0, CV.up, SV.renL, SV.ren] <;> fail) | (simp <;> fail))); conv => whnf)))
    (refine ⟨_, rfl, ?_⟩; conv => whnf)
    rw [rdLeft, if_pos he] at h
    exact ⟨_, _, WeakV.refl _ _ _ _, h⟩
theorem left_k : Contract Tryd.prog [] 68 leftS := ⟨⟨⟨_, rfl, rfl, rfl⟩⟩, left_c⟩
def endS : Spec := fun args H Q => match args, H with
  | [.ptr 0 0], [.cells [.int .i64 e, .str s] 121] => Q (.int .i64 (rdEnd e s)) (rd e s)
  | _, _ => False
theorem end_c : Meets Tryd.prog [] 41 endS := by
  refine meets_of Γok Tryd.func41 rfl ?_
  intro args H Q h
  unfold endS at h
  split at h
  case h_2 => exact h.elim
  (refine sx_sound Γok _ ?_; conv => whnf)
  refine CallVC.of [0] left_k ?_
  (conv => whnf)
  refine Both.dec (fun he => ?_) (fun he => ?_)
  · (conv => whnf)
    rw [rdEnd, if_pos he] at h
    exact ⟨_, _, WeakV.refl _ _ _ _, h⟩
  · (conv => whnf)
    (repeat (first | (refine Both.lit_true ?_; conv => whnf) | (refine Both.lit_false ?_; conv => whnf) | (refine Need.mk ?_ ?_; (focus (first | omega | exact ⟨by omega, by omega⟩ | rfl | exact ⟨rfl, rfl⟩ | exact ⟨rfl, Nat.le_of_ble_eq_true rfl⟩ | exact Nat.le_of_ble_eq_true rfl | (refine ⟨rfl, rfl, ?_⟩; simp [isFar, ofV0, CV.up, SV.renL, SV.ren] <;> fail) | (refine ⟨rfl, Nat.le_of_ble_eq_true rfl, ?_⟩; simp [isFar, ofV0, CV.up, SV.renL, SV.ren] <;> fail) | (simp <;> fail))); conv => whnf)))
    refine CallVC.of [0] err_k ⟨.inr rfl, ?_⟩
    (conv => whnf)
    rw [rdEnd, if_neg he] at h
    exact ⟨_, _, WeakV.refl _ _ _ _, h⟩
theorem end_k : Contract Tryd.prog [] 41 endS := ⟨⟨⟨_, rfl, rfl, rfl⟩⟩, end_c⟩
def bev (l : List UInt8) : Nat := l.foldl (fun n b => n * 256 + b.toNat) 0
theorem bev_app (l : List UInt8) (b : UInt8) : bev (l ++ [b]) = bev l * 256 + b.toNat := by simp [bev]
theorem bev_from (l : List UInt8) : ∀ (a m : Nat), a < 256 ^ m → l.foldl (fun n b => n * 256 + b.toNat) a < 256 ^ (m + l.length) := by
  induction l with
  | nil => intro a m h; simpa using h
  | cons b l ih =>
    intro a m h
    rw [List.foldl_cons, List.length_cons, show m + (l.length + 1) = (m + 1) + l.length by omega]
    refine ih _ _ ?_
    have := b.toNat_lt
    rw [Nat.pow_succ]
    omega
theorem bev_lt (l : List UInt8) : bev l < 256 ^ l.length := by
  have := bev_from l 0 0 (by simp)
  rw [Nat.zero_add] at this
  exact this
theorem bys_get {l : List UInt8} {i : Nat} (h : i < l.length) : (bys l)[((i : Nat) : Int).toNat]? = some (.int .u8 (l[i].toNat : Int)) := by
  rw [Int.toNat_natCast, bys, List.getElem?_map, List.getElem?_eq_getElem h]
  rfl
theorem bev_take (l : List UInt8) {k : Nat} (h : k < l.length) : bev (l.take (k + 1)) = bev (l.take k) * 256 + l[k].toNat := by
  rw [List.take_succ_eq_append_getElem h, bev_app]
theorem bev_room (l : List UInt8) {k : Nat} (h : k < l.length) (h8 : l.length ≤ 8) : bev (l.take k) * 256 + 256 ≤ 18446744073709551616 := by
  have h1 := bev_lt (l.take k)
  rw [List.length_take, Nat.min_eq_left (by omega)] at h1
  have h2 : 256 ^ k ≤ 256 ^ 7 := Nat.pow_le_pow_right (by omega) (by omega)
  have h3 : (256 : Nat) ^ 7 = 72057594037927936 := by decide
  omega
theorem rdT_len (e n : Int) (s : List UInt8) : (rdT e n s).length ≤ n.toNat := by
  unfold rdT
  split
  · rw [List.length_take]; omega
  · simp
theorem or_go (n : Nat) (b : UInt8) (h : n * 256 + 256 ≤ 18446744073709551616) : bitOr .u64 (shlI .u64 (n : Int) 8) (IntKind.u64.wrap (b.toNat : Int)) = ((n * 256 + b.toNat : Nat) : Int) := by
  have hb := b.toNat_lt
  have h1 : shlI .u64 (n : Int) 8 = ((n * 256 : Nat) : Int) := by
    unfold shlI
    rw [show (2 : Int) ^ min (8 : Int).toNat IntKind.u64.bits = 256 from rfl, wrap_u64 (by omega) (by omega)]
    omega
  rw [h1, wrap_u64 (by omega) (by omega)]
  show IntKind.u64.wrap (((BitVec.ofInt 64 ((n * 256 : Nat) : Int) ||| BitVec.ofInt 64 ((b.toNat : Nat) : Int)).toNat : Nat) : Int) = _
  rw [BitVec.ofInt_natCast, BitVec.ofInt_natCast, BitVec.toNat_or, BitVec.toNat_ofNat, BitVec.toNat_ofNat, Nat.mod_eq_of_lt (by omega), Nat.mod_eq_of_lt (by omega)]
  have h2 : n * 256 ||| b.toNat = n * 256 + b.toNat := by
    have := Nat.shiftLeft_add_eq_or_of_lt (b := b.toNat) (i := 8) (by omega) n
    rw [Nat.shiftLeft_eq] at this
    exact this.symm
  rw [h2, wrap_u64 (by omega) (by omega)]
def getS : Spec := fun args H Q => match args, H with
  | [.ptr 0 0, .int .i64 n], [.cells [.int .i64 e, .str s] 121] => s.length < 1000000 ∧ 0 ≤ n ∧ n ≤ 8 ∧ Q (.int .u64 (bev (rdT e n s) : Int)) (rd (rdE e n s) (rdS e n s))
  | _, _ => False
theorem get_c : Meets Tryd.prog [] 64 getS := by
  refine meets_of Γok Tryd.func64 rfl ?_
  intro args H Q h
  unfold getS at h
  split at h
  case h_2 => exact h.elim
  rename_i n e s
  obtain ⟨hs, hn0, hn8, h⟩ := h
  (refine sx_sound Γok _ ?_; conv => whnf)
  refine CallVC.of [0] rraw_k ⟨hs, ?_⟩
  (conv => whnf)
  have htl := rdT_len e n s
  generalize rdT e n s = t at htl h ⊢
  generalize rdE e n s = e1 at h ⊢
  generalize rdS e n s = s1 at h ⊢
  have htl : t.length ≤ 8 := by omega
  refine loop_rule (fun k : Nat => ⟨[.any, .any, .any, .any, .any, .int .u64 (bev (t.take k) : Int), .any, .any, .any, .any, .any, .own 1, .int .i64 (t.length : Int), .int .i64 (k : Int), .any, .any, .any, .any, .any, .any, .any, .any, .any, .any], rd e1 s1 ++ [.own 5 1 t.length (bys t) true]⟩) (fun k => k ≤ t.length) (fun k => t.length - k) 0 (by omega) ?_ ?_
  · refine Weak.le ?_ ?_
    · (repeat' ((conv => whnf); first | exact True.intro | (refine And.intro ?_ ?_)))
      all_goals first | rfl | done
    · (repeat' ((conv => whnf); first | exact True.intro | (refine And.intro ?_ ?_)))
      all_goals first | rfl | exact .eq rfl
  · intro k hk
    (refine sx_sound Γok _ ?_; conv => whnf)
    refine Both.dec (fun hlt => ?_) (fun hge => ?_)
    · (conv => whnf)
      (repeat (first | (refine Both.lit_true ?_; conv => whnf) | (refine Both.lit_false ?_; conv => whnf) | (refine Need.mk ?_ ?_; (focus (first | omega | exact ⟨by omega, by omega⟩ | rfl | exact ⟨rfl, rfl⟩ | exact ⟨rfl, Nat.le_of_ble_eq_true rfl⟩ | exact Nat.le_of_ble_eq_true rfl | (refine ⟨rfl, rfl, ?_⟩; simp [isFar, ofV0, CV.up, SV.renL, SV.ren] <;> fail) | (refine ⟨rfl, Nat.le_of_ble_eq_true rfl, ?_⟩; simp [isFar, ofV0, CV.up, SV.renL, SV.ren] <;> fail) | (simp <;> fail))); conv => whnf)))
      refine Need.mk ⟨rfl, by omega, by omega⟩ ?_
      (conv => whnf)
      refine ⟨_, bys_get (by omega), ?_⟩
      (conv => whnf)
      (repeat (first | (refine Both.lit_true ?_; conv => whnf) | (refine Both.lit_false ?_; conv => whnf) | (refine Need.mk ?_ ?_; (focus (first | omega | exact ⟨by omega, by omega⟩ | rfl | exact ⟨rfl, rfl⟩ | exact ⟨rfl, Nat.le_of_ble_eq_true rfl⟩ | exact Nat.le_of_ble_eq_true rfl | (refine ⟨rfl, rfl, ?_⟩; simp [isFar, ofV0, CV.up, SV.renL, SV.ren] <;> fail) | (refine ⟨rfl, Nat.le_of_ble_eq_true rfl, ?_⟩; simp [isFar, ofV0, CV.up, SV.renL, SV.ren] <;> fail) | (simp <;> fail))); conv => whnf)))
      have hkt : k < t.length := by omega
      refine ⟨k + 1, by omega, by omega, Weak.le ?_ ?_⟩
      · (repeat' ((conv => whnf); first | exact True.intro | (refine And.intro ?_ ?_)))
        all_goals first | rfl | exact congrArg (SV.int .i64) (by rw [wrap_i64 (by omega) (by omega)]; rfl) | exact congrArg (SV.int .u64) (by rw [or_go _ _ (bev_room t hkt htl), bev_take t hkt])
      · (repeat' ((conv => whnf); first | exact True.intro | (refine And.intro ?_ ?_)))
        all_goals first | rfl | exact .eq rfl
    · obtain rfl : k = t.length := by omega
      (conv => whnf)
      rw [List.take_length]
      refine ⟨_, _, WeakV.to [0] rfl rfl rfl rfl ?_, h⟩
      (repeat' ((conv => whnf); first | exact True.intro | (refine And.intro ?_ ?_)))
      all_goals first | rfl | exact .eq rfl
theorem get_k : Contract Tryd.prog [] 64 getS := ⟨⟨⟨_, rfl, rfl, rfl⟩⟩, get_c⟩
theorem rdS_len (e n : Int) (s : List UInt8) : (rdS e n s).length ≤ s.length := by
  unfold rdS
  split
  · rw [List.length_drop]; omega
  · simp
def rdV (e n : Int) (s : List UInt8) : Nat := bev (rdT e n s)
theorem rdV_lt (e : Int) (n : Nat) (s : List UInt8) : rdV e n s < 256 ^ n := by
  have h1 := bev_lt (rdT e n s)
  have h2 := rdT_len e n s
  exact Nat.lt_of_lt_of_le h1 (Nat.pow_le_pow_right (by omega) (by omega))
theorem rdV_lt1 (e : Int) (s : List UInt8) : rdV e 1 s < 256 := rdV_lt e 1 s
theorem rdV_lt2 (e : Int) (s : List UInt8) : rdV e 2 s < 65536 := rdV_lt e 2 s
def rnewS : Spec := fun args H Q => match args, H with
  | [.str s], [] => Q (.ptr 0 0) (rd 0 s)
  | _, _ => False
theorem rnew_c : Meets Tryd.prog [] 38 rnewS := by
  refine meets_of Γok Tryd.func38 rfl ?_
  intro args H Q h
  unfold rnewS at h
  split at h
  case h_2 => exact h.elim
  (refine sx_sound Γok _ ?_; conv => whnf)
  (repeat (first | (exact Out.same; conv => whnf) | (exact Out1.same; conv => whnf) | (refine QAnd.mk ?_ ?_; conv => whnf) | (apply QStepH.go; conv => whnf) | (refine Both.lit_true ?_; conv => whnf) | (refine Both.lit_false ?_; conv => whnf) | (apply QStep.go; conv => whnf) | (refine Need.mk ?_ ?_; (focus (first | omega | exact ⟨by omega, by omega⟩ | rfl | exact ⟨rfl, rfl⟩ | exact ⟨rfl, by omega, by omega⟩ | exact ⟨by omega, by omega, by omega⟩ | exact ⟨rfl, Nat.le_of_ble_eq_true rfl⟩ | exact Nat.le_of_ble_eq_true rfl | (refine ⟨rfl, rfl, ?_⟩; simp [isFar, ofV0, CV.up, SV.renL, SV.ren] <;> fail) | (refine ⟨rfl, Nat.le_of_ble_eq_true rfl, ?_⟩; simp [isFar, ofV0, CV.up, SV.renL, SV.ren] <;> fail) | (simp only [List.length_append, List.length_drop, List.length_take, List.length_replicate, List.length_map]; omega) | (simp <;> fail))); conv => whnf) | (refine ⟨_, rfl, ?_⟩; conv => whnf)))
  refine ⟨_, _, WeakV.auto ?_, h⟩
  (repeat' ((conv => whnf); first | exact True.intro | (refine And.intro ?_ ?_)))
  all_goals first | rfl | exact .eq rfl
theorem rnew_k : Contract Tryd.prog [] 38 rnewS := ⟨⟨⟨_, rfl, rfl, rfl⟩⟩, rnew_c⟩
def rbyteS : Spec := fun args H Q => match args, H with
  | [.ptr 0 0], [.cells [.int .i64 e, .str s] 121] => Need (s.length < 1000000) (Q (.int .i64 (rdV e 1 s : Int)) (rd (rdE e 1 s) (rdS e 1 s)))
  | _, _ => False
theorem rbyte_c : Meets Tryd.prog [] 39 rbyteS := by
  refine meets_of Γok Tryd.func39 rfl ?_
  intro args H Q h
  unfold rbyteS at h
  split at h
  case h_2 => exact h.elim
  rename_i e s
  obtain ⟨hs, h⟩ := h
  (refine sx_sound Γok _ ?_; conv => whnf)
  refine CallVC.auto get_k ?_
  refine ⟨hs, by omega, by omega, ?_⟩
  (conv => whnf)
  have hv := rdV_lt1 e s
  refine ⟨_, _, WeakV.auto ?_, h⟩
  (repeat' ((conv => whnf); first | exact True.intro | (refine And.intro ?_ ?_)))
  all_goals first | rfl | exact .eq rfl | exact congrArg (SV.int .i64) (wrap_i64 (n := (rdV e 1 s : Int)) (by omega) (by omega))
theorem rbyte_k : Contract Tryd.prog [] 39 rbyteS := ⟨⟨⟨_, rfl, rfl, rfl⟩⟩, rbyte_c⟩
def rnumS : Spec := fun args H Q => match args, H with
  | [.ptr 0 0], [.cells [.int .i64 e, .str s] 121] => Need (s.length < 1000000) (Q (.int .u64 (rdV e 8 s : Int)) (rd (rdE e 8 s) (rdS e 8 s)))
  | _, _ => False
theorem rnum_c : Meets Tryd.prog [] 86 rnumS := by
  refine meets_of Γok Tryd.func86 rfl ?_
  intro args H Q h
  unfold rnumS at h
  split at h
  case h_2 => exact h.elim
  rename_i e s
  obtain ⟨hs, h⟩ := h
  (refine sx_sound Γok _ ?_; conv => whnf)
  refine CallVC.auto get_k ?_
  refine ⟨hs, by omega, by omega, ?_⟩
  (conv => whnf)
  refine ⟨_, _, WeakV.auto ?_, h⟩
  (repeat' ((conv => whnf); first | exact True.intro | (refine And.intro ?_ ?_)))
  all_goals first | rfl | exact .eq rfl
theorem rnum_k : Contract Tryd.prog [] 86 rnumS := ⟨⟨⟨_, rfl, rfl, rfl⟩⟩, rnum_c⟩
def rtextS : Spec := fun args H Q => match args, H with
  | [.ptr 0 0], [.cells [.int .i64 e, .str s] 121] => Need (s.length < 1000000) (Q (.str (rdT (rdE e 2 s) (rdV e 2 s) (rdS e 2 s))) (rd (rdE (rdE e 2 s) (rdV e 2 s) (rdS e 2 s)) (rdS (rdE e 2 s) (rdV e 2 s) (rdS e 2 s))))
  | _, _ => False
theorem rtext_c : Meets Tryd.prog [] 66 rtextS := by
  refine meets_of Γok Tryd.func66 rfl ?_
  intro args H Q h
  unfold rtextS at h
  split at h
  case h_2 => exact h.elim
  rename_i e s
  obtain ⟨hs, h⟩ := h
  (refine sx_sound Γok _ ?_; conv => whnf)
  refine CallVC.auto get_k ?_
  refine ⟨hs, by omega, by omega, ?_⟩
  (conv => whnf)
  have hv := rdV_lt2 e s
  have hl := rdS_len e 2 s
  rw [show IntKind.i64.wrap (bev (rdT e 2 s) : Int) = (rdV e 2 s : Int) from wrap_i64 (n := (rdV e 2 s : Int)) (by omega) (by omega)]
  refine CallVC.auto rraw_k ?_
  refine ⟨by omega, ?_⟩
  (conv => whnf)
  refine ⟨_, _, WeakV.auto ?_, h⟩
  (repeat' ((conv => whnf); first | exact True.intro | (refine And.intro ?_ ?_)))
  all_goals first | rfl | exact .eq rfl
theorem rtext_k : Contract Tryd.prog [] 66 rtextS := ⟨⟨⟨_, rfl, rfl, rfl⟩⟩, rtext_c⟩
end Go.LX
end
section
set_option maxRecDepth 100000
set_option maxHeartbeats 4000000
set_option autoImplicit false
set_option linter.unusedVariables false
set_option linter.unusedSimpArgs false
namespace Go.LX
open Go.Proofs

def wrOk (bd : Nat) (more : List UInt8) (H : List LObj) (Q : SV → List LObj → Prop) : Prop :=
  match H with
  | [.cells [.int .i64 e, .opt 0 1, .own 1] 75, .own 5 1 m xs true] => ∃ l : List UInt8, xs = bys l ∧ m = l.length ∧ l.length < bd ∧ Q (.tuple []) (wrN e (l ++ more))
  | _ => False
def byteOkS : Spec := fun args H Q => match args with
  | [.ptr 0 0, .int .i64 n] => Need (0 ≤ n ∧ n ≤ 255) (wrOk 10000000 [UInt8.ofNat n.toNat] H Q)
  | _ => False
theorem byteOk_k : Contract Tryd.prog [] 31 byteOkS := byte_k.imp fun args H Q h => by
  unfold byteOkS at h
  split at h
  case h_2 => exact h.elim
  obtain ⟨h0, h⟩ := h
  unfold wrOk at h
  split at h
  case h_2 => exact h.elim
  obtain ⟨l, rfl, rfl, hl, h⟩ := h
  refine ⟨l, rfl, rfl, hl, ?_⟩
  rw [decide_eq_true h0]
  exact h
def numOkS : Spec := fun args H Q => match args with
  | [.ptr 0 0, .int .u64 n] => Need (0 ≤ n ∧ n < 18446744073709551616) (wrOk 10000000 (beb n.toNat 8) H Q)
  | _ => False
theorem numOk_k : Contract Tryd.prog [] 32 numOkS := num_k.imp fun args H Q h => by
  unfold numOkS at h
  split at h
  case h_2 => exact h.elim
  rename_i n
  obtain ⟨h0, h⟩ := h
  unfold wrOk at h
  split at h
  case h_2 => exact h.elim
  obtain ⟨l, rfl, rfl, hl, h⟩ := h
  exact ⟨n.toNat, by omega, by omega, l, rfl, rfl, hl, h⟩
def textOkS : Spec := fun args H Q => match args with
  | [.ptr 0 0, .str s] => Need (s.length ≤ 65535) (wrOk 10000000 (beb s.length 2 ++ s) H Q)
  | _ => False
theorem textOk_k : Contract Tryd.prog [] 33 textOkS := text_k.imp fun args H Q h => by
  unfold textOkS at h
  split at h
  case h_2 => exact h.elim
  obtain ⟨h0, h⟩ := h
  unfold wrOk at h
  split at h
  case h_2 => exact h.elim
  obtain ⟨l, rfl, rfl, hl, h⟩ := h
  refine ⟨l, rfl, rfl, hl, ?_⟩
  rw [decide_eq_true h0]
  exact h
def rawOkS : Spec := fun args H Q => match args with
  | [.ptr 0 0, .str s] => Need (s.length < 10000000) (wrOk 20000000 s H Q)
  | _ => False
theorem rawOk_k : Contract Tryd.prog [] 34 rawOkS := raw_k.imp fun args H Q h => by
  unfold rawOkS at h
  split at h
  case h_2 => exact h.elim
  obtain ⟨h0, h⟩ := h
  unfold wrOk at h
  split at h
  case h_2 => exact h.elim
  obtain ⟨l, rfl, rfl, hl, h⟩ := h
  exact ⟨h0, l, rfl, rfl, hl, h⟩
def failAS : Spec := fun args H Q => match args, H with
  | [.ptr 0 0, .int .i64 n], [.cells [.int .i64 e, .str s] 121] => ∀ e' : Int, e' = (if e = 0 then n else e) → Q (.tuple []) (rd e' s)
  | _, _ => False
theorem failA_k : Contract Tryd.prog [] 59 failAS := fail_k.imp fun args H Q h => by
  unfold failAS at h
  split at h
  case h_2 => exact h.elim
  exact ⟨.inr rfl, h _ rfl⟩
def errAS : Spec := fun args H Q => match args, H with
  | [.ptr 0 0], [.cells [.int .i64 e, .str s] 121] => Q (.int .i64 e) (rd e s)
  | _, _ => False
theorem errA_k : Contract Tryd.prog [] 62 errAS := err_k.imp fun args H Q h => by
  unfold errAS at h
  split at h
  case h_2 => exact h.elim
  exact ⟨.inr rfl, h⟩
end Go.LX
end
section
set_option maxRecDepth 100000
set_option maxHeartbeats 4000000
set_option autoImplicit false
set_option linter.unusedVariables false
set_option linter.unusedSimpArgs false
namespace Go.LX
open Go.Proofs

theorem bev_fold (l : List UInt8) : ∀ a : Nat, l.foldl (fun n b => n * 256 + b.toNat) a = a * 256 ^ l.length + bev l := by
  induction l with
  | nil => intro a; simp [bev]
  | cons b l ih =>
    intro a
    have h0 : bev (b :: l) = b.toNat * 256 ^ l.length + bev l := by
      show List.foldl _ (0 * 256 + b.toNat) l = _
      rw [ih, Nat.zero_mul, Nat.zero_add]
    rw [List.foldl_cons, ih, h0, List.length_cons, Nat.pow_succ, Nat.add_mul, Nat.mul_comm (256 ^ l.length) 256, Nat.mul_assoc, Nat.add_assoc]
theorem bev_cons (b : UInt8) (l : List UInt8) : bev (b :: l) = b.toNat * 256 ^ l.length + bev l := by
  show List.foldl _ (0 * 256 + b.toNat) l = _
  rw [bev_fold, Nat.zero_mul, Nat.zero_add]
theorem bev_beb : ∀ (k v : Nat), v < 256 ^ k → bev (beb v k) = v
  | 0, v, h => by simp at h; subst h; rfl
  | k + 1, v, h => by
    have hb : beb v (k + 1) = UInt8.ofNat (v / 256 ^ k) :: beb (v % 256 ^ k) k := by
      rw [beb]
      congr 1
      have gen : ∀ j, j ≤ k → beb v j = beb (v % 256 ^ k) j := by
        intro j
        induction j with
        | zero => intro _; rfl
        | succ j ih =>
          intro hj
          rw [beb, beb, ih (by omega)]
          congr 1
          obtain ⟨d, rfl⟩ : ∃ d, k = j + 1 + d := ⟨k - (j + 1), by omega⟩
          have h1 : v % 256 ^ (j + 1 + d) / 256 ^ j = v / 256 ^ j % 256 ^ (d + 1) := by
            rw [show j + 1 + d = j + (d + 1) by omega, Nat.pow_add, Nat.mod_mul_right_div_self]
          rw [h1]
          have h2 : v / 256 ^ j % 256 ^ (d + 1) % 256 = v / 256 ^ j % 256 := by
            rw [Nat.mod_mod_of_dvd]
            exact ⟨256 ^ d, by rw [Nat.pow_succ, Nat.mul_comm]⟩
          apply UInt8.toNat_inj.1
          simp only [UInt8.toNat_ofNat']
          exact h2.symm
      exact gen k (Nat.le_refl k)
    have hlt : v / 256 ^ k < 256 := by
      rw [Nat.div_lt_iff_lt_mul (by exact Nat.pow_pos (by omega))]
      rw [Nat.pow_succ] at h
      omega
    rw [hb, bev_cons, beb_length, bev_beb k _ (Nat.mod_lt _ (Nat.pow_pos (by omega)))]
    simp only [UInt8.toNat_ofNat']
    rw [Nat.mod_eq_of_lt (show v / 256 ^ k < 2 ^ 8 by omega), Nat.mul_comm]
    exact Nat.div_add_mod v (256 ^ k)
end Go.LX
end
section
set_option maxRecDepth 100000
set_option maxHeartbeats 1000000
set_option autoImplicit false
set_option linter.unusedVariables false
set_option linter.unusedSimpArgs false
namespace Go.LX
open Go.Proofs

abbrev Bs := List UInt8
abbrev Pr := Bs × Bs
def txLeaf (p : Pr) : Bs := [0] ++ [UInt8.ofNat p.1.length] ++ p.1 ++ [UInt8.ofNat p.2.length] ++ p.2
def lft (n : Nat) : Nat := 2 ^ Nat.log2 (n - 1)
theorem lft_pos (n : Nat) : 0 < lft n := Nat.pow_pos (by decide)
theorem lft_lt {n : Nat} (h : 1 < n) : lft n < n := by
  have := Nat.log2_self_le (n := n - 1) (by omega)
  unfold lft
  omega
def dgP (l : List Pr) : Bs :=
  if h : l.length ≤ 1 then shaD (txLeaf (l.getD 0 ([], []))) else shaD ([1] ++ dgP (l.take (lft l.length)) ++ dgP (l.drop (lft l.length)))
termination_by l.length
decreasing_by
  · have := lft_lt (n := l.length) (by omega)
    rw [List.length_take]
    omega
  · have := lft_pos l.length
    rw [List.length_drop]
    omega
theorem dgP_one {l : List Pr} (h : l.length ≤ 1) : dgP l = shaD (txLeaf (l.getD 0 ([], []))) := by rw [dgP, dif_pos h]
theorem dgP_two {l : List Pr} (h : ¬ l.length ≤ 1) : dgP l = shaD ([1] ++ dgP (l.take (lft l.length)) ++ dgP (l.drop (lft l.length))) := by rw [dgP, dif_neg h]
theorem dgP_len (l : List Pr) : (dgP l).length = 32 := by
  by_cases h : l.length ≤ 1
  · rw [dgP_one h, shaD_len]
  · rw [dgP_two h, shaD_len]
def pathP (l : List Pr) (i : Nat) : List Bs :=
  if h : l.length ≤ 1 then [] else if i < lft l.length then pathP (l.take (lft l.length)) i ++ [dgP (l.drop (lft l.length))] else pathP (l.drop (lft l.length)) (i - lft l.length) ++ [dgP (l.take (lft l.length))]
termination_by l.length
decreasing_by
  · have := lft_lt (n := l.length) (by omega)
    rw [List.length_take]
    omega
  · have := lft_pos l.length
    rw [List.length_drop]
    omega
theorem pathP_one {l : List Pr} {i : Nat} (h : l.length ≤ 1) : pathP l i = [] := by rw [pathP, dif_pos h]
theorem pathP_two {l : List Pr} {i : Nat} (h : ¬ l.length ≤ 1) : pathP l i = if i < lft l.length then pathP (l.take (lft l.length)) i ++ [dgP (l.drop (lft l.length))] else pathP (l.drop (lft l.length)) (i - lft l.length) ++ [dgP (l.take (lft l.length))] := by rw [pathP, dif_neg h]
def depP (i n : Nat) : Nat :=
  if h : n ≤ 1 then 0 else if i < lft n then 1 + depP i (lft n) else 1 + depP (i - lft n) (n - lft n)
termination_by n
decreasing_by
  · exact lft_lt (by omega)
  · have := lft_pos n
    omega
theorem depP_one {i n : Nat} (h : n ≤ 1) : depP i n = 0 := by rw [depP, dif_pos h]
theorem depP_two {i n : Nat} (h : ¬ n ≤ 1) : depP i n = if i < lft n then 1 + depP i (lft n) else 1 + depP (i - lft n) (n - lft n) := by rw [depP, dif_neg h]
theorem path_dep : ∀ (m : Nat) (l : List Pr) (i : Nat), l.length ≤ m → (pathP l i).length = depP i l.length ∧ ∀ s ∈ pathP l i, s.length = 32
  | 0, l, i, hm => by
    rw [pathP_one (by omega), depP_one (by omega)]
    exact ⟨rfl, fun s hs => by cases hs⟩
  | m + 1, l, i, hm => by
    by_cases h : l.length ≤ 1
    · rw [pathP_one h, depP_one h]
      exact ⟨rfl, fun s hs => by cases hs⟩
    · have hlt := lft_lt (n := l.length) (by omega)
      have hpos := lft_pos l.length
      have e1 : (l.take (lft l.length)).length = lft l.length := by rw [List.length_take]; omega
      have e2 : (l.drop (lft l.length)).length = l.length - lft l.length := List.length_drop
      rw [pathP_two h, depP_two h]
      by_cases hi : i < lft l.length
      · rw [if_pos hi, if_pos hi]
        obtain ⟨h1, h2⟩ := path_dep m (l.take (lft l.length)) i (by omega)
        rw [e1] at h1
        refine ⟨by rw [List.length_append, h1]; simp; omega, fun s hs => ?_⟩
        rcases List.mem_append.1 hs with h5 | h5
        · exact h2 s h5
        · rw [List.mem_singleton.1 h5]; exact dgP_len _
      · rw [if_neg hi, if_neg hi]
        obtain ⟨h1, h2⟩ := path_dep m (l.drop (lft l.length)) (i - lft l.length) (by omega)
        rw [e2] at h1
        refine ⟨by rw [List.length_append, h1]; simp; omega, fun s hs => ?_⟩
        rcases List.mem_append.1 hs with h5 | h5
        · exact h2 s h5
        · rw [List.mem_singleton.1 h5]; exact dgP_len _
end Go.LX
end
section
set_option maxRecDepth 100000
set_option maxHeartbeats 4000000
set_option autoImplicit false
set_option linter.unusedVariables false
set_option linter.unusedSimpArgs false
namespace Go.LX
open Go.Proofs

def rbS : Spec := fun args H Q => match args, H with
  | [.int .u64 n, .int .i64 c], [] => ∃ v k : Nat, n = v ∧ v < 18446744073709551616 ∧ c = k ∧ k ≤ 8 ∧ Q (.str (beb v k)) []
  | _, _ => False
theorem rem_go (q : Nat) : IntKind.u8.wrap ((q : Int).tmod 256) = ((UInt8.ofNat q).toNat : Int) := by
  rw [Int.tmod_eq_emod_of_nonneg (by omega), wrap_u8_mod]
  simp
theorem quo_go (q : Nat) (hv : q < 18446744073709551616) : IntKind.u64.wrap ((q : Int).tdiv 256) = ((q / 256 : Nat) : Int) := by
  rw [Int.tdiv_eq_ediv_of_nonneg (by omega), wrap_u64 (by omega) (by omega)]
  omega
theorem cv_by (b : UInt8) : cvByte (.int .u8 (b.toNat : Int)) = b := by
  show UInt8.ofNat ((b.toNat : Int)).toNat = b
  rw [Int.toNat_natCast]
  simp
theorem rb_c : Meets Tryd.prog [] 36 rbS := by
  refine meets_of Γok Tryd.func36 rfl ?_
  intro args H Q h
  unfold rbS at h
  split at h
  case h_2 => exact h.elim
  obtain ⟨v, c, rfl, hv, rfl, hc, h⟩ := h
  (refine sx_sound Γok _ ?_; conv => whnf)
  refine loop_rule (fun j : Nat => ⟨[.int .u64 ((v / 256 ^ j : Nat) : Int), .int .i64 (c : Int), .any, .any, .any, .str (beb v j), .int .i64 (j : Int), .any, .any, .any, .any, .any, .any, .any, .any, .any, .any, .any, .any, .any, .any, .any], []⟩) (fun j => j ≤ c) (fun j => c - j) 0 (by omega) ?_ ?_
  · refine Weak.le ?_ ?_
    · (repeat' ((conv => whnf); first | exact True.intro | (refine And.intro ?_ ?_)))
      all_goals first | rfl | (rw [Nat.pow_zero, Nat.div_one])
    · (repeat' ((conv => whnf); first | exact True.intro | (refine And.intro ?_ ?_)))
  · intro j hj
    (refine sx_sound Γok _ ?_; conv => whnf)
    refine Both.dec (fun hlt => ?_) (fun hge => ?_)
    · (conv => whnf)
      (repeat (first | (refine Both.lit_true ?_; conv => whnf) | (refine Both.lit_false ?_; conv => whnf) | (refine Need.mk ?_ ?_; (focus (first | omega | exact ⟨by omega, by omega⟩ | rfl | exact ⟨rfl, rfl⟩ | exact ⟨rfl, Nat.le_of_ble_eq_true rfl⟩ | exact Nat.le_of_ble_eq_true rfl | (refine ⟨rfl, rfl, ?_⟩; simp [isFar, ofV0, CV.up, SV.renL, SV.ren] <;> fail) | (refine ⟨rfl, Nat.le_of_ble_eq_true rfl, ?_⟩; simp [isFar, ofV0, CV.up, SV.renL, SV.ren] <;> fail) | (simp <;> fail))); conv => whnf)))
      rw [rem_go]
      refine Need.mk ⟨rfl, by simp [isU8]⟩ ?_
      (conv => whnf)
      refine Need.mk (by rw [beb_length]; simp; omega) ?_
      (conv => whnf)
      (repeat (first | (refine Both.lit_true ?_; conv => whnf) | (refine Both.lit_false ?_; conv => whnf) | (refine Need.mk ?_ ?_; (focus (first | omega | exact ⟨by omega, by omega⟩ | rfl | exact ⟨rfl, rfl⟩ | exact ⟨rfl, Nat.le_of_ble_eq_true rfl⟩ | exact Nat.le_of_ble_eq_true rfl | (refine ⟨rfl, rfl, ?_⟩; simp [isFar, ofV0, CV.up, SV.renL, SV.ren] <;> fail) | (refine ⟨rfl, Nat.le_of_ble_eq_true rfl, ?_⟩; simp [isFar, ofV0, CV.up, SV.renL, SV.ren] <;> fail) | (simp <;> fail))); conv => whnf)))
      have hq : v / 256 ^ j < 18446744073709551616 := Nat.lt_of_le_of_lt (Nat.div_le_self _ _) hv
      refine ⟨j + 1, by omega, by omega, Weak.le ?_ ?_⟩
      · (repeat' ((conv => whnf); first | exact True.intro | (refine And.intro ?_ ?_)))
        all_goals first | rfl | exact congrArg (SV.int .u64) (by rw [quo_go _ hq, Nat.pow_succ, ← Nat.div_div_eq_div_mul]) | exact congrArg (SV.int .i64) (by rw [wrap_i64 (by omega) (by omega)]; rfl) | exact congrArg (fun x => SV.str (x :: beb v j)) (cv_by _)
      · (repeat' ((conv => whnf); first | exact True.intro | (refine And.intro ?_ ?_)))
    · obtain rfl : j = c := by omega
      (conv => whnf)
      exact ⟨_, _, WeakV.drop rfl, h⟩
theorem rb_k : Contract Tryd.prog [] 36 rbS := ⟨⟨⟨_, rfl, rfl, rfl⟩⟩, rb_c⟩
end Go.LX
end
section
set_option maxRecDepth 100000
set_option maxHeartbeats 1000000
set_option autoImplicit false
set_option linter.unusedVariables false
set_option linter.unusedSimpArgs false
namespace Go.LX
open Go.Proofs

def len8 : List UInt8 := [0, 1, 2, 2, 3, 3, 3, 3, 4, 4, 4, 4, 4, 4, 4, 4, 5, 5, 5, 5, 5, 5, 5, 5, 5, 5, 5, 5, 5, 5, 5, 5, 6, 6, 6, 6, 6, 6, 6, 6, 6, 6, 6, 6, 6, 6, 6, 6, 6, 6, 6, 6, 6, 6, 6, 6, 6, 6, 6, 6, 6, 6, 6, 6, 7, 7, 7, 7, 7, 7, 7, 7, 7, 7, 7, 7, 7, 7, 7, 7, 7, 7, 7, 7, 7, 7, 7, 7, 7, 7, 7, 7, 7, 7, 7, 7, 7, 7, 7, 7, 7, 7, 7, 7, 7, 7, 7, 7, 7, 7, 7, 7, 7, 7, 7, 7, 7, 7, 7, 7, 7, 7, 7, 7, 7, 7, 7, 7, 8, 8, 8, 8, 8, 8, 8, 8, 8, 8, 8, 8, 8, 8, 8, 8, 8, 8, 8, 8, 8, 8, 8, 8, 8, 8, 8, 8, 8, 8, 8, 8, 8, 8, 8, 8, 8, 8, 8, 8, 8, 8, 8, 8, 8, 8, 8, 8, 8, 8, 8, 8, 8, 8, 8, 8, 8, 8, 8, 8, 8, 8, 8, 8, 8, 8, 8, 8, 8, 8, 8, 8, 8, 8, 8, 8, 8, 8, 8, 8, 8, 8, 8, 8, 8, 8, 8, 8, 8, 8, 8, 8, 8, 8, 8, 8, 8, 8, 8, 8, 8, 8, 8, 8, 8, 8, 8, 8, 8, 8, 8, 8, 8, 8, 8, 8, 8, 8, 8, 8, 8, 8, 8, 8, 8, 8, 8, 8]
def lenN (v : Nat) : Nat := if v = 0 then 0 else Nat.log2 v + 1
theorem len8_at : ∀ k : Fin 256, (len8.getD k.val 0).toNat = lenN k.val := by decide +kernel
theorem lenN_8 {v : Nat} (h : 256 ≤ v) : lenN v = 8 + lenN (v / 256) := by
  have h1 : v ≠ 0 := by omega
  have h2 : v / 256 ≠ 0 := by omega
  unfold lenN
  rw [if_neg h1, if_neg h2]
  have a := Nat.log2_self_le h2
  have b := Nat.lt_log2_self (n := v / 256)
  obtain ⟨j, hj⟩ : ∃ j, (v / 256).log2 = j := ⟨_, rfl⟩
  rw [hj] at a b ⊢
  have c := (Nat.le_log2 (k := j + 8) h1).2 (by rw [Nat.pow_add]; omega)
  have d := (Nat.log2_lt (k := j + 9) h1).2 (by
    have : 2 ^ (j + 9) = 2 ^ (j + 1) * 256 := by rw [show j + 9 = (j + 1) + 8 by omega, Nat.pow_add]
    omega)
  omega
def len64S : Spec := fun args H Q => match args, H with
  | [.int .u64 x], [] => ∃ v : Nat, x = v ∧ v < 65536 ∧ Q (.int .i64 ((lenN v : Nat) : Int)) []
  | _, _ => False
theorem len64_c : Meets Tryd.prog [] 103 len64S := by
  refine meets_of Γok Tryd.func103 rfl ?_
  intro args H Q h
  unfold len64S at h
  split at h
  case h_2 => exact h.elim
  obtain ⟨v, rfl, hv, h⟩ := h
  have hb1 : decide ((4294967296 : Int) ≤ (v : Int)) = false := by rw [decide_eq_false_iff_not]; omega
  have hb2 : decide ((65536 : Int) ≤ (v : Int)) = false := by rw [decide_eq_false_iff_not]; omega
  (refine sx_sound Γok _ ?_; conv => whnf)
  (repeat (first | (refine Both.of_false hb1 ?_; conv => whnf) | (refine Both.of_false hb2 ?_; conv => whnf) | (exact Out.same; conv => whnf) | (exact Out1.same; conv => whnf) | (refine QAnd.mk ?_ ?_; conv => whnf) | (apply QStepH.go; conv => whnf) | (refine Both.lit_true ?_; conv => whnf) | (refine Both.lit_false ?_; conv => whnf) | (apply QStep.go; conv => whnf) | (refine Need.mk ?_ ?_; (focus (first | omega | exact ⟨by omega, by omega⟩ | rfl | exact ⟨rfl, rfl⟩ | exact ⟨rfl, by omega, by omega⟩ | exact ⟨by omega, by omega, by omega⟩ | exact ⟨rfl, Nat.le_of_ble_eq_true rfl⟩ | exact Nat.le_of_ble_eq_true rfl | (refine ⟨rfl, rfl, ?_⟩; simp [isFar, ofV0, CV.up, SV.renL, SV.ren] <;> fail) | (refine ⟨rfl, Nat.le_of_ble_eq_true rfl, ?_⟩; simp [isFar, ofV0, CV.up, SV.renL, SV.ren] <;> fail) | (simp only [List.length_append, List.length_drop, List.length_take, List.length_replicate, List.length_map]; omega) | (simp <;> fail))); conv => whnf) | (refine ⟨_, rfl, ?_⟩; conv => whnf)))
  refine Both.dec (fun hbig => ?_) (fun hsm => ?_)
  · have hs : shrI .u64 (v : Int) 8 = ((v / 256 : Nat) : Int) := by
      unfold shrI
      rw [show min (8 : Int).toNat IntKind.u64.bits = 8 from rfl, Int.fdiv_eq_ediv_of_nonneg _ (by decide)]
      rfl
    have hi : IntKind.u8.wrap ((v / 256 : Nat) : Int) = ((v / 256 : Nat) : Int) := by rw [wrap_u8_mod]; omega
    have hin : 0 ≤ IntKind.u8.wrap (shrI .u64 (v : Int) 8) ∧ IntKind.u8.wrap (shrI .u64 (v : Int) 8) < ((256 : Nat) : Int) := by rw [hs, hi]; omega
    have hat := len8_at ⟨v / 256, by omega⟩
    have hl : lenN v = 8 + lenN (v / 256) := lenN_8 (by omega)
    have hsm : lenN (v / 256) ≤ 8 := by
      unfold lenN
      split
      · omega
      · have := (Nat.log2_lt (n := v / 256) (k := 8) (by omega)).2 (by omega)
        omega
    have hres : IntKind.i64.wrap (IntKind.i64.wrap (0 + 8) + IntKind.i64.wrap (((List.getD len8 (IntKind.u8.wrap (shrI .u64 (v : Int) 8)).toNat 0).toNat : Nat) : Int)) = ((lenN v : Nat) : Int) := by
      rw [hs, hi, Int.toNat_natCast, hat, hl, wrap_i64 (n := 0 + 8) (by omega) (by omega), wrap_i64 (n := ((lenN (v / 256) : Nat) : Int)) (by omega) (by omega), wrap_i64 (by omega) (by omega)]
      omega
    (conv => whnf)
    (repeat (first | (refine Need.mk hin ?_; conv => whnf) | (exact Out.same; conv => whnf) | (exact Out1.same; conv => whnf) | (refine QAnd.mk ?_ ?_; conv => whnf) | (apply QStepH.go; conv => whnf) | (refine Both.lit_true ?_; conv => whnf) | (refine Both.lit_false ?_; conv => whnf) | (apply QStep.go; conv => whnf) | (refine Need.mk ?_ ?_; (focus (first | omega | exact ⟨by omega, by omega⟩ | rfl | exact ⟨rfl, rfl⟩ | exact ⟨rfl, by omega, by omega⟩ | exact ⟨by omega, by omega, by omega⟩ | exact ⟨rfl, Nat.le_of_ble_eq_true rfl⟩ | exact Nat.le_of_ble_eq_true rfl | (refine ⟨rfl, rfl, ?_⟩; simp [isFar, ofV0, CV.up, SV.renL, SV.ren] <;> fail) | (refine ⟨rfl, Nat.le_of_ble_eq_true rfl, ?_⟩; simp [isFar, ofV0, CV.up, SV.renL, SV.ren] <;> fail) | (simp only [List.length_append, List.length_drop, List.length_take, List.length_replicate, List.length_map]; omega) | (simp <;> fail))); conv => whnf) | (refine ⟨_, rfl, ?_⟩; conv => whnf)))
    exact ⟨_, _, WeakV.drop (congrArg (SV.int .i64) hres), h⟩
  · have hi : IntKind.u8.wrap (v : Int) = (v : Int) := by rw [wrap_u8_mod]; omega
    have hin : 0 ≤ IntKind.u8.wrap (v : Int) ∧ IntKind.u8.wrap (v : Int) < ((256 : Nat) : Int) := by rw [hi]; omega
    have hat := len8_at ⟨v, by omega⟩
    have hsm : lenN v ≤ 8 := by
      unfold lenN
      split
      · omega
      · have := (Nat.log2_lt (n := v) (k := 8) (by omega)).2 (by omega)
        omega
    have hres : IntKind.i64.wrap (0 + IntKind.i64.wrap (((List.getD len8 (IntKind.u8.wrap (v : Int)).toNat 0).toNat : Nat) : Int)) = ((lenN v : Nat) : Int) := by
      rw [hi, Int.toNat_natCast, hat, wrap_i64 (n := ((lenN v : Nat) : Int)) (by omega) (by omega), wrap_i64 (by omega) (by omega)]
      omega
    (conv => whnf)
    (repeat (first | (refine Need.mk hin ?_; conv => whnf) | (exact Out.same; conv => whnf) | (exact Out1.same; conv => whnf) | (refine QAnd.mk ?_ ?_; conv => whnf) | (apply QStepH.go; conv => whnf) | (refine Both.lit_true ?_; conv => whnf) | (refine Both.lit_false ?_; conv => whnf) | (apply QStep.go; conv => whnf) | (refine Need.mk ?_ ?_; (focus (first | omega | exact ⟨by omega, by omega⟩ | rfl | exact ⟨rfl, rfl⟩ | exact ⟨rfl, by omega, by omega⟩ | exact ⟨by omega, by omega, by omega⟩ | exact ⟨rfl, Nat.le_of_ble_eq_true rfl⟩ | exact Nat.le_of_ble_eq_true rfl | (refine ⟨rfl, rfl, ?_⟩; simp [isFar, ofV0, CV.up, SV.renL, SV.ren] <;> fail) | (refine ⟨rfl, Nat.le_of_ble_eq_true rfl, ?_⟩; simp [isFar, ofV0, CV.up, SV.renL, SV.ren] <;> fail) | (simp only [List.length_append, List.length_drop, List.length_take, List.length_replicate, List.length_map]; omega) | (simp <;> fail))); conv => whnf) | (refine ⟨_, rfl, ?_⟩; conv => whnf)))
    exact ⟨_, _, WeakV.drop (congrArg (SV.int .i64) hres), h⟩
theorem len64_k : Contract Tryd.prog [] 103 len64S := ⟨⟨⟨_, rfl, rfl, rfl⟩⟩, len64_c⟩
theorem lenB_c : Meets Tryd.prog [] 90 len64S := by
  refine meets_of Γok Tryd.func90 rfl ?_
  intro args H Q h
  unfold len64S at h
  split at h
  case h_2 => exact h.elim
  obtain ⟨v, rfl, hv, h⟩ := h
  (refine sx_sound Γok _ ?_; conv => whnf)
  (repeat (first | (exact Out.same; conv => whnf) | (exact Out1.same; conv => whnf) | (refine QAnd.mk ?_ ?_; conv => whnf) | (apply QStepH.go; conv => whnf) | (refine Both.lit_true ?_; conv => whnf) | (refine Both.lit_false ?_; conv => whnf) | (apply QStep.go; conv => whnf) | (refine Need.mk ?_ ?_; (focus (first | omega | exact ⟨by omega, by omega⟩ | rfl | exact ⟨rfl, rfl⟩ | exact ⟨rfl, by omega, by omega⟩ | exact ⟨by omega, by omega, by omega⟩ | exact ⟨rfl, Nat.le_of_ble_eq_true rfl⟩ | exact Nat.le_of_ble_eq_true rfl | (refine ⟨rfl, rfl, ?_⟩; simp [isFar, ofV0, CV.up, SV.renL, SV.ren] <;> fail) | (refine ⟨rfl, Nat.le_of_ble_eq_true rfl, ?_⟩; simp [isFar, ofV0, CV.up, SV.renL, SV.ren] <;> fail) | (simp only [List.length_append, List.length_drop, List.length_take, List.length_replicate, List.length_map]; omega) | (simp <;> fail))); conv => whnf) | (refine ⟨_, rfl, ?_⟩; conv => whnf)))
  refine CallVC.auto len64_k ⟨v, rfl, hv, ?_⟩
  (conv => whnf)
  (repeat (first | (exact Out.same; conv => whnf) | (exact Out1.same; conv => whnf) | (refine QAnd.mk ?_ ?_; conv => whnf) | (apply QStepH.go; conv => whnf) | (refine Both.lit_true ?_; conv => whnf) | (refine Both.lit_false ?_; conv => whnf) | (apply QStep.go; conv => whnf) | (refine Need.mk ?_ ?_; (focus (first | omega | exact ⟨by omega, by omega⟩ | rfl | exact ⟨rfl, rfl⟩ | exact ⟨rfl, by omega, by omega⟩ | exact ⟨by omega, by omega, by omega⟩ | exact ⟨rfl, Nat.le_of_ble_eq_true rfl⟩ | exact Nat.le_of_ble_eq_true rfl | (refine ⟨rfl, rfl, ?_⟩; simp [isFar, ofV0, CV.up, SV.renL, SV.ren] <;> fail) | (refine ⟨rfl, Nat.le_of_ble_eq_true rfl, ?_⟩; simp [isFar, ofV0, CV.up, SV.renL, SV.ren] <;> fail) | (simp only [List.length_append, List.length_drop, List.length_take, List.length_replicate, List.length_map]; omega) | (simp <;> fail))); conv => whnf) | (refine ⟨_, rfl, ?_⟩; conv => whnf)))
  exact ⟨_, _, WeakV.drop rfl, h⟩
theorem lenB_k : Contract Tryd.prog [] 90 len64S := ⟨⟨⟨_, rfl, rfl, rfl⟩⟩, lenB_c⟩
def lftS : Spec := fun args H Q => match args, H with
  | [.int .i64 x], [] => ∃ n : Nat, x = n ∧ 1 < n ∧ n < 65536 ∧ Q (.int .i64 ((lft n : Nat) : Int)) []
  | _, _ => False
theorem lft_c : Meets Tryd.prog [] 74 lftS := by
  refine meets_of Γok Tryd.func74 rfl ?_
  intro args H Q h
  unfold lftS at h
  split at h
  case h_2 => exact h.elim
  obtain ⟨n, rfl, h1, h2, h⟩ := h
  have hw : IntKind.u64.wrap (IntKind.i64.wrap ((n : Int) - 1)) = ((n - 1 : Nat) : Int) := by rw [wrap_i64 (by omega) (by omega), wrap_u64 (by omega) (by omega)]; omega
  obtain ⟨j, hj⟩ : ∃ j, Nat.log2 (n - 1) = j := ⟨_, rfl⟩
  have hj16 : j < 16 := by rw [← hj]; exact (Nat.log2_lt (by omega)).2 (by omega)
  have hl : ((lenN (n - 1) : Nat) : Int) = ((j + 1 : Nat) : Int) := by unfold lenN; rw [if_neg (by omega), hj]
  have hs : IntKind.i64.wrap (((j + 1 : Nat) : Int) - 1) = (j : Int) := by rw [wrap_i64 (by omega) (by omega)]; omega
  have hlf : lft n = 2 ^ j := by unfold lft; rw [hj]
  have hp : (2 : Nat) ^ j ≤ 2 ^ 15 := Nat.pow_le_pow_right (by decide) (by omega)
  have hv : shlI .i64 1 (IntKind.i64.wrap (((j + 1 : Nat) : Int) - 1)) = ((lft n : Nat) : Int) := by
    rw [hs, hlf]
    unfold shlI
    rw [show min ((j : Int)).toNat IntKind.i64.bits = j by simp only [IntKind.bits]; omega, Int.one_mul]
    have : (2 : Int) ^ j = ((2 ^ j : Nat) : Int) := by norm_cast
    rw [this, wrap_i64 (by omega) (by omega)]
  have hn0 : 0 ≤ IntKind.i64.wrap (((j + 1 : Nat) : Int) - 1) := by rw [hs]; omega
  (refine sx_sound Γok _ ?_; conv => whnf)
  (repeat (first | (exact Out.same; conv => whnf) | (exact Out1.same; conv => whnf) | (refine QAnd.mk ?_ ?_; conv => whnf) | (apply QStepH.go; conv => whnf) | (refine Both.lit_true ?_; conv => whnf) | (refine Both.lit_false ?_; conv => whnf) | (apply QStep.go; conv => whnf) | (refine Need.mk ?_ ?_; (focus (first | omega | exact ⟨by omega, by omega⟩ | rfl | exact ⟨rfl, rfl⟩ | exact ⟨rfl, by omega, by omega⟩ | exact ⟨by omega, by omega, by omega⟩ | exact ⟨rfl, Nat.le_of_ble_eq_true rfl⟩ | exact Nat.le_of_ble_eq_true rfl | (refine ⟨rfl, rfl, ?_⟩; simp [isFar, ofV0, CV.up, SV.renL, SV.ren] <;> fail) | (refine ⟨rfl, Nat.le_of_ble_eq_true rfl, ?_⟩; simp [isFar, ofV0, CV.up, SV.renL, SV.ren] <;> fail) | (simp only [List.length_append, List.length_drop, List.length_take, List.length_replicate, List.length_map]; omega) | (simp <;> fail))); conv => whnf) | (refine ⟨_, rfl, ?_⟩; conv => whnf)))
  refine CallVC.auto lenB_k ⟨n - 1, hw, by omega, ?_⟩
  rw [hl]
  (conv => whnf)
  (repeat (first | (refine Need.mk hn0 ?_; conv => whnf) | (exact Out.same; conv => whnf) | (exact Out1.same; conv => whnf) | (refine QAnd.mk ?_ ?_; conv => whnf) | (apply QStepH.go; conv => whnf) | (refine Both.lit_true ?_; conv => whnf) | (refine Both.lit_false ?_; conv => whnf) | (apply QStep.go; conv => whnf) | (refine Need.mk ?_ ?_; (focus (first | omega | exact ⟨by omega, by omega⟩ | rfl | exact ⟨rfl, rfl⟩ | exact ⟨rfl, by omega, by omega⟩ | exact ⟨by omega, by omega, by omega⟩ | exact ⟨rfl, Nat.le_of_ble_eq_true rfl⟩ | exact Nat.le_of_ble_eq_true rfl | (refine ⟨rfl, rfl, ?_⟩; simp [isFar, ofV0, CV.up, SV.renL, SV.ren] <;> fail) | (refine ⟨rfl, Nat.le_of_ble_eq_true rfl, ?_⟩; simp [isFar, ofV0, CV.up, SV.renL, SV.ren] <;> fail) | (simp only [List.length_append, List.length_drop, List.length_take, List.length_replicate, List.length_map]; omega) | (simp <;> fail))); conv => whnf) | (refine ⟨_, rfl, ?_⟩; conv => whnf)))
  exact ⟨_, _, WeakV.drop (congrArg (SV.int .i64) hv), h⟩
theorem lft_k : Contract Tryd.prog [] 74 lftS := ⟨⟨⟨_, rfl, rfl, rfl⟩⟩, lft_c⟩
def oneS : Spec := fun args H Q => match args, H with
  | [.int .i64 x], [] => ∃ n : Nat, x = n ∧ Q (.str [UInt8.ofNat n]) []
  | _, _ => False
theorem one_c : Meets Tryd.prog [] 71 oneS := by
  refine meets_of Γok Tryd.func71 rfl ?_
  intro args H Q h
  unfold oneS at h
  split at h
  case h_2 => exact h.elim
  obtain ⟨n, rfl, h⟩ := h
  have hb : IntKind.u8.wrap (n : Int) = ((UInt8.ofNat n).toNat : Int) := by rw [wrap_u8_mod]; simp
  have hc : List.map cvByte [CV.int .u8 (IntKind.u8.wrap (n : Int))] = [UInt8.ofNat n] := by
    rw [hb]
    show [cvByte (.int .u8 ((UInt8.ofNat n).toNat : Int))] = _
    rw [cv_by]
  have hu : [CV.int .u8 (IntKind.u8.wrap (n : Int))].length = 1 ∧ ∀ x, x ∈ [CV.int .u8 (IntKind.u8.wrap (n : Int))] → isU8 x = true := ⟨rfl, fun x hx => by rw [List.mem_singleton.1 hx]; rfl⟩
  (refine sx_sound Γok _ ?_; conv => whnf)
  (repeat (first | (refine Need.mk hu ?_; conv => whnf) | (exact Out.same; conv => whnf) | (exact Out1.same; conv => whnf) | (refine QAnd.mk ?_ ?_; conv => whnf) | (apply QStepH.go; conv => whnf) | (refine Both.lit_true ?_; conv => whnf) | (refine Both.lit_false ?_; conv => whnf) | (apply QStep.go; conv => whnf) | (refine Need.mk ?_ ?_; (focus (first | omega | exact ⟨by omega, by omega⟩ | rfl | exact ⟨rfl, rfl⟩ | exact ⟨rfl, by omega, by omega⟩ | exact ⟨by omega, by omega, by omega⟩ | exact ⟨rfl, Nat.le_of_ble_eq_true rfl⟩ | exact Nat.le_of_ble_eq_true rfl | (refine ⟨rfl, rfl, ?_⟩; simp [isFar, ofV0, CV.up, SV.renL, SV.ren] <;> fail) | (refine ⟨rfl, Nat.le_of_ble_eq_true rfl, ?_⟩; simp [isFar, ofV0, CV.up, SV.renL, SV.ren] <;> fail) | (simp only [List.length_append, List.length_drop, List.length_take, List.length_replicate, List.length_map]; omega) | (simp <;> fail))); conv => whnf) | (refine ⟨_, rfl, ?_⟩; conv => whnf)))
  exact ⟨_, _, WeakV.drop (congrArg SV.str hc), h⟩
theorem one_k : Contract Tryd.prog [] 71 oneS := ⟨⟨⟨_, rfl, rfl, rfl⟩⟩, one_c⟩
end Go.LX
end
section
set_option maxRecDepth 100000
set_option maxHeartbeats 2000000
set_option autoImplicit false
set_option linter.unusedVariables false
set_option linter.unusedSimpArgs false
namespace Go.LX
open Go.Proofs

def enP (p : Pr) : List CV := [.str p.1, .str p.2]
def flP (l : List Pr) : List CV := l.flatMap enP
theorem flP_len (l : List Pr) : (flP l).length = 2 * l.length := by
  induction l with
  | nil => rfl
  | cons a l ih =>
    show (enP a ++ flP l).length = _
    rw [List.length_append, ih, List.length_cons]
    simp [enP]
    omega
theorem flP_app (l m : List Pr) : flP (l ++ m) = flP l ++ flP m := by rw [flP, List.flatMap_append]; rfl
theorem flP_take (l : List Pr) {k : Nat} (h : k ≤ l.length) : (flP l).take (2 * k) = flP (l.take k) := by
  have e : flP l = flP (l.take k) ++ flP (l.drop k) := by rw [← flP_app, List.take_append_drop]
  rw [e, List.take_append_of_le_length (by rw [flP_len, List.length_take]; omega), List.take_of_length_le (by rw [flP_len, List.length_take]; omega)]
theorem flP_drop (l : List Pr) {k : Nat} (h : k ≤ l.length) : (flP l).drop (2 * k) = flP (l.drop k) := by
  have e : flP l = flP (l.take k) ++ flP (l.drop k) := by rw [← flP_app, List.take_append_drop]
  have hl : (flP (l.take k)).length = 2 * k := by rw [flP_len, List.length_take]; omega
  rw [e, ← hl, List.drop_left]
theorem cut_lo (l : List Pr) {k : Nat} (h : k ≤ l.length) : ((flP l).take (((k : Nat) : Int).toNat * 2)).drop ((0 : Int).toNat * 2) = flP (l.take k) := by
  rw [Int.toNat_natCast, Nat.mul_comm k, flP_take l h]
  rfl
theorem cut_hi (l : List Pr) {k : Nat} (h : k ≤ l.length) : ((flP l).take (((l.length : Nat) : Int).toNat * 2)).drop (((k : Nat) : Int).toNat * 2) = flP (l.drop k) := by
  rw [Int.toNat_natCast, Int.toNat_natCast, Nat.mul_comm l.length, Nat.mul_comm k, List.take_of_length_le (by rw [flP_len]; exact Nat.le_refl _), flP_drop l h]
theorem flP_at (l : List Pr) {k : Nat} (h : k < l.length) : ((flP l).drop (((k : Nat) : Int).toNat * 2)).take 2 = [.str (l.getD k ([], [])).1, .str (l.getD k ([], [])).2] := by
  rw [Int.toNat_natCast, Nat.mul_comm, flP_drop l (by omega)]
  rw [List.drop_eq_getElem_cons h, List.getD_eq_getElem?_getD, List.getElem?_eq_getElem h]
  rfl
def okP (p : Pr) : Prop := p.1.length < 50000 ∧ p.2.length < 50000
def leafS : Spec := fun args H Q => match args, H with
  | [.agg [.str k, .str v]], [] => Need (k.length < 50000 ∧ v.length < 50000) (Q (.str (shaD (txLeaf (k, v)))) [])
  | _, _ => False
theorem leaf_c {y0 : CV} {cs0 : List CV} (hK : KAt y0 cs0) : Meets Tryd.prog [(0, y0 :: cs0)] 73 leafS := by
  refine meets_of Γok Tryd.func73 rfl ?_
  intro args H Q h
  unfold leafS at h
  split at h
  case h_2 => exact h.elim
  rename_i k v
  obtain ⟨⟨hk, hv⟩, h⟩ := h
  have hx : txLeaf (k, v) = ([[0], [UInt8.ofNat k.length], k, [UInt8.ofNat v.length], v] : List Bs).flatten := by simp [txLeaf]
  have hl : ([[0], [UInt8.ofNat k.length], k, [UInt8.ofNat v.length], v] : List Bs).flatten.length < 500000 := by simp; omega
  rw [hx] at h
  clear hx
  (refine sx_sound Γok _ ?_; conv => whnf)
  (refine DrawVC.any Γok (by kernel_rfl) (by kernel_rfl) (by kernel_rfl) (by rfl) ?_; conv => whnf)
  (repeat (first | (refine CallVC.auto (one_k.gl (G := [(0, y0 :: cs0)])) ⟨_, rfl, ?_⟩; conv => whnf) | (refine CallVC.auto (shaSum_k hK) ⟨[[0], [UInt8.ofNat k.length], k, [UInt8.ofNat v.length], v], rfl, rfl, (by decide : 5 < 1000000000), hl, ?_⟩; conv => whnf) | (exact Out.same; conv => whnf) | (exact Out1.same; conv => whnf) | (refine QAnd.mk ?_ ?_; conv => whnf) | (apply QStepH.go; conv => whnf) | (refine Both.lit_true ?_; conv => whnf) | (refine Both.lit_false ?_; conv => whnf) | (apply QStep.go; conv => whnf) | (refine Need.mk ?_ ?_; (focus (first | omega | exact ⟨by omega, by omega⟩ | rfl | exact ⟨rfl, rfl⟩ | exact ⟨rfl, by omega, by omega⟩ | exact ⟨by omega, by omega, by omega⟩ | exact ⟨rfl, Nat.le_of_ble_eq_true rfl⟩ | exact Nat.le_of_ble_eq_true rfl | (refine ⟨rfl, rfl, ?_⟩; simp [isFar, ofV0, CV.up, SV.renL, SV.ren] <;> fail) | (refine ⟨rfl, Nat.le_of_ble_eq_true rfl, ?_⟩; simp [isFar, ofV0, CV.up, SV.renL, SV.ren] <;> fail) | (simp only [List.length_append, List.length_drop, List.length_take, List.length_replicate, List.length_map]; omega) | (simp <;> fail))); conv => whnf) | (refine ⟨_, rfl, ?_⟩; conv => whnf)))
  refine ⟨_, _, WeakV.auto ?_, h⟩
  (repeat' ((conv => whnf); first | exact True.intro | (refine And.intro ?_ ?_)))
  all_goals first | rfl | exact .eq rfl
theorem leaf_k {y0 : CV} {cs0 : List CV} (hK : KAt y0 cs0) : Contract Tryd.prog [(0, y0 :: cs0)] 73 leafS := ⟨⟨⟨_, rfl, rfl, rfl⟩⟩, leaf_c hK⟩
def bothS : Spec := fun args H Q => match args, H with
  | [.str a, .str b], [] => Need (a.length < 50000 ∧ b.length < 50000) (Q (.str (shaD ([1] ++ a ++ b))) [])
  | _, _ => False
theorem both_c {y0 : CV} {cs0 : List CV} (hK : KAt y0 cs0) : Meets Tryd.prog [(0, y0 :: cs0)] 75 bothS := by
  refine meets_of Γok Tryd.func75 rfl ?_
  intro args H Q h
  unfold bothS at h
  split at h
  case h_2 => exact h.elim
  rename_i a b
  obtain ⟨⟨ha, hb⟩, h⟩ := h
  have hx : [1] ++ a ++ b = ([[1], a, b] : List Bs).flatten := by simp
  have hl : ([[1], a, b] : List Bs).flatten.length < 500000 := by simp; omega
  rw [hx] at h
  clear hx
  (refine sx_sound Γok _ ?_; conv => whnf)
  (repeat (first | (refine CallVC.auto (shaSum_k hK) ⟨[[1], a, b], rfl, rfl, (by decide : 3 < 1000000000), hl, ?_⟩; conv => whnf) | (exact Out.same; conv => whnf) | (exact Out1.same; conv => whnf) | (refine QAnd.mk ?_ ?_; conv => whnf) | (apply QStepH.go; conv => whnf) | (refine Both.lit_true ?_; conv => whnf) | (refine Both.lit_false ?_; conv => whnf) | (apply QStep.go; conv => whnf) | (refine Need.mk ?_ ?_; (focus (first | omega | exact ⟨by omega, by omega⟩ | rfl | exact ⟨rfl, rfl⟩ | exact ⟨rfl, by omega, by omega⟩ | exact ⟨by omega, by omega, by omega⟩ | exact ⟨rfl, Nat.le_of_ble_eq_true rfl⟩ | exact Nat.le_of_ble_eq_true rfl | (refine ⟨rfl, rfl, ?_⟩; simp [isFar, ofV0, CV.up, SV.renL, SV.ren] <;> fail) | (refine ⟨rfl, Nat.le_of_ble_eq_true rfl, ?_⟩; simp [isFar, ofV0, CV.up, SV.renL, SV.ren] <;> fail) | (simp only [List.length_append, List.length_drop, List.length_take, List.length_replicate, List.length_map]; omega) | (simp <;> fail))); conv => whnf) | (refine ⟨_, rfl, ?_⟩; conv => whnf)))
  exact ⟨_, _, WeakV.drop rfl, h⟩
theorem both_k {y0 : CV} {cs0 : List CV} (hK : KAt y0 cs0) : Contract Tryd.prog [(0, y0 :: cs0)] 75 bothS := ⟨⟨⟨_, rfl, rfl, rfl⟩⟩, both_c hK⟩
def mdigS (m : Nat) : Spec := fun args H Q => match args, H with
  | [.sl 2 n cs f], [] => ∃ l : List Pr, n = l.length ∧ cs = flP l ∧ 0 < l.length ∧ l.length ≤ m ∧ l.length < 60000 ∧ (∀ p ∈ l, okP p) ∧ Q (.str (dgP l)) []
  | _, _ => False
theorem mdig_c {y0 : CV} {cs0 : List CV} (hK : KAt y0 cs0) : ∀ m, Meets Tryd.prog [(0, y0 :: cs0)] 47 (mdigS m)
  | 0 => by
    intro args H Q h
    unfold mdigS at h
    split at h
    case h_2 => exact h.elim
    obtain ⟨l, _, _, h1, h2, _⟩ := h
    omega
  | m + 1 => by
    have ih : Contract Tryd.prog [(0, y0 :: cs0)] 47 (mdigS m) := ⟨⟨⟨_, rfl, rfl, rfl⟩⟩, mdig_c hK m⟩
    refine meets_of Γok Tryd.func47 rfl ?_
    intro args H Q h
    unfold mdigS at h
    split at h
    case h_2 => exact h.elim
    rename_i n cs f
    obtain ⟨l, rfl, rfl, h0, hm, h60, hok, h⟩ := h
    (refine sx_sound Γok _ ?_; conv => whnf)
    (repeat (first | (exact Out.same; conv => whnf) | (exact Out1.same; conv => whnf) | (refine QAnd.mk ?_ ?_; conv => whnf) | (apply QStepH.go; conv => whnf) | (refine Both.lit_true ?_; conv => whnf) | (refine Both.lit_false ?_; conv => whnf) | (apply QStep.go; conv => whnf) | (refine Need.mk ?_ ?_; (focus (first | omega | exact ⟨by omega, by omega⟩ | rfl | exact ⟨rfl, rfl⟩ | exact ⟨rfl, by omega, by omega⟩ | exact ⟨by omega, by omega, by omega⟩ | exact ⟨rfl, Nat.le_of_ble_eq_true rfl⟩ | exact Nat.le_of_ble_eq_true rfl | (refine ⟨rfl, rfl, ?_⟩; simp [isFar, ofV0, CV.up, SV.renL, SV.ren] <;> fail) | (refine ⟨rfl, Nat.le_of_ble_eq_true rfl, ?_⟩; simp [isFar, ofV0, CV.up, SV.renL, SV.ren] <;> fail) | (simp only [List.length_append, List.length_drop, List.length_take, List.length_replicate, List.length_map]; omega) | (simp <;> fail))); conv => whnf) | (refine ⟨_, rfl, ?_⟩; conv => whnf)))
    refine Both.dec (fun hone => ?_) (fun hmore => ?_)
    · have hl1 : l.length ≤ 1 := by omega
      have hat := flP_at l (k := 0) (by omega)
      have hp := hok (l.getD 0 ([], [])) (by rw [List.getD_eq_getElem?_getD, List.getElem?_eq_getElem (by omega)]; exact List.getElem_mem _)
      rw [dgP_one hl1] at h
      have hin : ti38.size = 2 ∧ (0 : Int) ≤ 0 ∧ (0 : Int) < ((l.length : Nat) : Int) := ⟨rfl, by omega, by omega⟩
      revert hat hp h
      generalize l.getD 0 ([], []) = p
      obtain ⟨k, v⟩ := p
      intro h hat hp
      (conv => whnf)
      (repeat (first | (refine Need.mk hin ?_; conv => whnf) | (refine ⟨_, hat, ?_⟩; conv => whnf) | (exact Out.same; conv => whnf) | (exact Out1.same; conv => whnf) | (refine QAnd.mk ?_ ?_; conv => whnf) | (apply QStepH.go; conv => whnf) | (refine Both.lit_true ?_; conv => whnf) | (refine Both.lit_false ?_; conv => whnf) | (apply QStep.go; conv => whnf) | (refine Need.mk ?_ ?_; (focus (first | omega | exact ⟨by omega, by omega⟩ | rfl | exact ⟨rfl, rfl⟩ | exact ⟨rfl, by omega, by omega⟩ | exact ⟨by omega, by omega, by omega⟩ | exact ⟨rfl, Nat.le_of_ble_eq_true rfl⟩ | exact Nat.le_of_ble_eq_true rfl | (refine ⟨rfl, rfl, ?_⟩; simp [isFar, ofV0, CV.up, SV.renL, SV.ren] <;> fail) | (refine ⟨rfl, Nat.le_of_ble_eq_true rfl, ?_⟩; simp [isFar, ofV0, CV.up, SV.renL, SV.ren] <;> fail) | (simp only [List.length_append, List.length_drop, List.length_take, List.length_replicate, List.length_map]; omega) | (simp <;> fail))); conv => whnf) | (refine ⟨_, rfl, ?_⟩; conv => whnf)))
      refine CallVC.auto (leaf_k hK) (Need.mk hp ?_)
      (conv => whnf)
      (repeat (first | (exact Out.same; conv => whnf) | (exact Out1.same; conv => whnf) | (refine QAnd.mk ?_ ?_; conv => whnf) | (apply QStepH.go; conv => whnf) | (refine Both.lit_true ?_; conv => whnf) | (refine Both.lit_false ?_; conv => whnf) | (apply QStep.go; conv => whnf) | (refine Need.mk ?_ ?_; (focus (first | omega | exact ⟨by omega, by omega⟩ | rfl | exact ⟨rfl, rfl⟩ | exact ⟨rfl, by omega, by omega⟩ | exact ⟨by omega, by omega, by omega⟩ | exact ⟨rfl, Nat.le_of_ble_eq_true rfl⟩ | exact Nat.le_of_ble_eq_true rfl | (refine ⟨rfl, rfl, ?_⟩; simp [isFar, ofV0, CV.up, SV.renL, SV.ren] <;> fail) | (refine ⟨rfl, Nat.le_of_ble_eq_true rfl, ?_⟩; simp [isFar, ofV0, CV.up, SV.renL, SV.ren] <;> fail) | (simp only [List.length_append, List.length_drop, List.length_take, List.length_replicate, List.length_map]; omega) | (simp <;> fail))); conv => whnf) | (refine ⟨_, rfl, ?_⟩; conv => whnf)))
      exact ⟨_, _, WeakV.drop rfl, h⟩
    · have hn1 : ¬ l.length ≤ 1 := by omega
      have hlt := lft_lt (n := l.length) (by omega)
      have hpos := lft_pos l.length
      rw [dgP_two hn1] at h
      have hcl := cut_lo l (k := lft l.length) (by omega)
      have hch := cut_hi l (k := lft l.length) (by omega)
      have l1 : (l.take (lft l.length)).length = lft l.length := by rw [List.length_take]; omega
      have l2 : (l.drop (lft l.length)).length = l.length - lft l.length := List.length_drop
      have d1 := dgP_len (l.take (lft l.length))
      have d2 := dgP_len (l.drop (lft l.length))
      have o1 : ∀ p ∈ l.take (lft l.length), okP p := fun p hp => hok p (List.mem_of_mem_take hp)
      have o2 : ∀ p ∈ l.drop (lft l.length), okP p := fun p hp => hok p (List.mem_of_mem_drop hp)
      revert h hlt hpos hcl hch l1 l2 d1 d2 o1 o2
      generalize hg : lft l.length = g
      generalize ha : l.take g = la
      generalize hb : l.drop g = lb
      intro h hlt hpos hcl hch l1 l2 d1 d2 o1 o2
      have c1 : ti38.size = 2 ∧ (0 : Int) ≤ 0 ∧ (0 : Int) ≤ ((g : Nat) : Int) ∧ ((g : Nat) : Int) ≤ ((l.length : Nat) : Int) := ⟨rfl, by omega, by omega, by omega⟩
      have c2 : ti38.size = 2 ∧ 0 ≤ ((g : Nat) : Int) ∧ ((g : Nat) : Int) ≤ ((l.length : Nat) : Int) ∧ ((l.length : Nat) : Int) ≤ ((l.length : Nat) : Int) := ⟨rfl, by omega, by omega, by omega⟩
      have n1 : ((g : Nat) : Int).toNat - (0 : Int).toNat = la.length := by rw [l1]; rfl
      have n2 : ((l.length : Nat) : Int).toNat - ((g : Nat) : Int).toNat = lb.length := by rw [l2]; rfl
      have nb : la.length ≤ m ∧ 0 < la.length ∧ la.length < 60000 ∧ lb.length ≤ m ∧ 0 < lb.length ∧ lb.length < 60000 := by omega
      obtain ⟨b1, b2, b3, b4, b5, b6⟩ := nb
      have dd : (dgP la).length < 50000 ∧ (dgP lb).length < 50000 := by rw [d1, d2]; decide
      (conv => whnf)
      (repeat (first | (exact Out.same; conv => whnf) | (exact Out1.same; conv => whnf) | (refine QAnd.mk ?_ ?_; conv => whnf) | (apply QStepH.go; conv => whnf) | (refine Both.lit_true ?_; conv => whnf) | (refine Both.lit_false ?_; conv => whnf) | (apply QStep.go; conv => whnf) | (refine Need.mk ?_ ?_; (focus (first | omega | exact ⟨by omega, by omega⟩ | rfl | exact ⟨rfl, rfl⟩ | exact ⟨rfl, by omega, by omega⟩ | exact ⟨by omega, by omega, by omega⟩ | exact ⟨rfl, Nat.le_of_ble_eq_true rfl⟩ | exact Nat.le_of_ble_eq_true rfl | (refine ⟨rfl, rfl, ?_⟩; simp [isFar, ofV0, CV.up, SV.renL, SV.ren] <;> fail) | (refine ⟨rfl, Nat.le_of_ble_eq_true rfl, ?_⟩; simp [isFar, ofV0, CV.up, SV.renL, SV.ren] <;> fail) | (simp only [List.length_append, List.length_drop, List.length_take, List.length_replicate, List.length_map]; omega) | (simp <;> fail))); conv => whnf) | (refine ⟨_, rfl, ?_⟩; conv => whnf)))
      refine CallVC.auto (lft_k.gl (G := [(0, y0 :: cs0)])) ⟨l.length, rfl, by omega, by omega, ?_⟩
      rw [hg]
      (conv => whnf)
      (refine DrawVC.any Γok (by kernel_rfl) (by kernel_rfl) (by kernel_rfl) (by rfl) ?_; conv => whnf)
      (repeat (first | (refine Need.mk c1 ?_; conv => whnf) | (refine Need.mk c2 ?_; conv => whnf) | (refine CallVC.auto ih ⟨la, n1, hcl, b2, b1, b3, o1, ?_⟩; conv => whnf) | (refine CallVC.auto ih ⟨lb, n2, hch, b5, b4, b6, o2, ?_⟩; conv => whnf) | (refine CallVC.auto (both_k hK) (Need.mk dd ?_); conv => whnf) | (exact Out.same; conv => whnf) | (exact Out1.same; conv => whnf) | (refine QAnd.mk ?_ ?_; conv => whnf) | (apply QStepH.go; conv => whnf) | (refine Both.lit_true ?_; conv => whnf) | (refine Both.lit_false ?_; conv => whnf) | (apply QStep.go; conv => whnf) | (refine Need.mk ?_ ?_; (focus (first | omega | exact ⟨by omega, by omega⟩ | rfl | exact ⟨rfl, rfl⟩ | exact ⟨rfl, by omega, by omega⟩ | exact ⟨by omega, by omega, by omega⟩ | exact ⟨rfl, Nat.le_of_ble_eq_true rfl⟩ | exact Nat.le_of_ble_eq_true rfl | (refine ⟨rfl, rfl, ?_⟩; simp [isFar, ofV0, CV.up, SV.renL, SV.ren] <;> fail) | (refine ⟨rfl, Nat.le_of_ble_eq_true rfl, ?_⟩; simp [isFar, ofV0, CV.up, SV.renL, SV.ren] <;> fail) | (simp only [List.length_append, List.length_drop, List.length_take, List.length_replicate, List.length_map]; omega) | (simp <;> fail))); conv => whnf) | (refine ⟨_, rfl, ?_⟩; conv => whnf)))
      exact ⟨_, _, WeakV.drop rfl, h⟩
theorem mdig_k {y0 : CV} {cs0 : List CV} (hK : KAt y0 cs0) (m : Nat) : Contract Tryd.prog [(0, y0 :: cs0)] 47 (mdigS m) := ⟨⟨⟨_, rfl, rfl, rfl⟩⟩, mdig_c hK m⟩
end Go.LX
end
section
set_option maxRecDepth 100000
set_option maxHeartbeats 2000000
set_option autoImplicit false
set_option linter.unusedVariables false
set_option linter.unusedSimpArgs false
namespace Go.LX
open Go.Proofs

theorem beb_one (n : Nat) : beb n 1 = [UInt8.ofNat n] := by
  show [UInt8.ofNat (n / 256 ^ 0)] = _
  rw [Nat.pow_zero, Nat.div_one]
end Go.LX
end
section
set_option maxRecDepth 100000
set_option maxHeartbeats 1000000
set_option autoImplicit false
set_option linter.unusedVariables false
set_option linter.unusedSimpArgs false
namespace Go.LX
open Go.Proofs

end Go.LX
end
section
set_option maxRecDepth 100000
set_option maxHeartbeats 2000000
set_option autoImplicit false
set_option linter.unusedVariables false
set_option linter.unusedSimpArgs false
namespace Go.LX
open Go.Proofs

def strs (l : List Bs) : List CV := l.map CV.str
theorem strs_app (l m : List Bs) : strs l ++ strs m = strs (l ++ m) := by rw [strs, strs, strs, List.map_append]
end Go.LX
end
section
set_option maxRecDepth 100000
set_option maxHeartbeats 2000000
set_option autoImplicit false
set_option linter.unusedVariables false
set_option linter.unusedSimpArgs false
namespace Go.LX
open Go.Proofs

theorem Contract.weak {P : Program} {G : Gl} {f : FuncId} {S S' : Spec} (hc : Contract P G f S) (h : ∀ args H Q, S' args H Q → ∃ s2 : LS, Weak G H.length ⟨args, H⟩ s2 ∧ S s2.t s2.h Q) : Contract P G f S' := by
  refine ⟨hc.ok, fun args H Q hs E w vs hv hr hg => ?_⟩
  obtain ⟨s2, hw, h2⟩ := h args H Q hs
  obtain ⟨E2, q1, q2⟩ := hw E E w { tmps := vs.toArray, defers := [] } hr.len.symm ⟨Env.Le.refl E, hv, hr, hg, rfl⟩
  refine (hc.meets s2.t s2.h Q h2 E2 w vs q1.vals q1.rel q1.gl).mono ?_
  rintro e w' ⟨v, r, H', E', h1, h3, h4, h5, h6, h7⟩
  exact ⟨v, r, H', E', h1, h3, h4, h5, q2.trans h6, q1.anc.trans h7⟩
def fcell : LObj := .cells [.func (.func 80) [.ptr 0 0, .ptr 1 0]] 135
def ppS (m : Nat) : Spec := fun args H Q => match args, H with
  | [.sl 2 n cs f, .int .i64 x, .ptr 0 0, .ptr 1 0], [.cells [.func (.func 80) [.ptr 0 0, .ptr 1 0]] 135, .cells [.own 2] 39, .own 9 1 k xs true] =>
    ∃ (l : List Pr) (i : Nat) (acc : List Bs), n = l.length ∧ cs = flP l ∧ x = i ∧ i < l.length ∧ l.length ≤ m ∧ l.length < 60000 ∧ (∀ p ∈ l, okP p) ∧ xs = strs acc ∧ k = acc.length ∧ acc.length + l.length < 100000 ∧
      Q (.tuple []) [fcell, .cells [.own 3] 39, .gone, .own 9 1 (acc ++ pathP l i).length (strs (acc ++ pathP l i)) true]
  | _, _ => False
theorem dep_lt : ∀ (m n i : Nat), n ≤ m → 0 < n → depP i n < n
  | 0, n, i, hm, h0 => by omega
  | m + 1, n, i, hm, h0 => by
    by_cases h9 : n ≤ 1
    · rw [depP_one h9]; omega
    · have q1 := lft_lt (n := n) (by omega)
      have q2 := lft_pos n
      rw [depP_two h9]
      split
      · have := dep_lt m (lft n) i (by omega) (by omega); omega
      · have := dep_lt m (n - lft n) (i - lft n) (by omega) (by omega); omega
theorem path_lt (l : List Pr) (i : Nat) (h : 0 < l.length) : (pathP l i).length < l.length := by
  rw [(path_dep l.length l i (Nat.le_refl _)).1]
  exact dep_lt l.length l.length i (Nat.le_refl _) h
theorem pp_c {y0 : CV} {cs0 : List CV} (hK : KAt y0 cs0) : ∀ m, Meets Tryd.prog [(0, y0 :: cs0)] 80 (ppS m)
  | 0 => by
    intro args H Q h
    unfold ppS at h
    split at h
    case h_2 => exact h.elim
    obtain ⟨l, i, acc, _, _, _, h1, h2, _⟩ := h
    omega
  | m + 1 => by
    have ih : Contract Tryd.prog [(0, y0 :: cs0)] 80 (ppS m) := ⟨⟨⟨_, rfl, rfl, rfl⟩⟩, pp_c hK m⟩
    refine meets_of Γok Tryd.func80 rfl ?_
    intro args H Q h
    unfold ppS at h
    split at h
    case h_2 => exact h.elim
    rename_i n cs f x k xs
    obtain ⟨l, i, acc, rfl, rfl, rfl, hil, hm, h60, hok, rfl, rfl, hacc, h⟩ := h
    (refine sx_sound Γok _ ?_; conv => whnf)
    (repeat (first | (exact Out.same; conv => whnf) | (exact Out1.same; conv => whnf) | (refine QAnd.mk ?_ ?_; conv => whnf) | (apply QStepH.go; conv => whnf) | (refine Both.lit_true ?_; conv => whnf) | (refine Both.lit_false ?_; conv => whnf) | (apply QStep.go; conv => whnf) | (refine Need.mk ?_ ?_; (focus (first | omega | exact ⟨by omega, by omega⟩ | rfl | exact ⟨rfl, rfl⟩ | exact ⟨rfl, by omega, by omega⟩ | exact ⟨by omega, by omega, by omega⟩ | exact ⟨rfl, Nat.le_of_ble_eq_true rfl⟩ | exact Nat.le_of_ble_eq_true rfl | (refine ⟨rfl, rfl, ?_⟩; simp [isFar, ofV0, CV.up, SV.renL, SV.ren] <;> fail) | (refine ⟨rfl, Nat.le_of_ble_eq_true rfl, ?_⟩; simp [isFar, ofV0, CV.up, SV.renL, SV.ren] <;> fail) | (simp only [List.length_append, List.length_drop, List.length_take, List.length_replicate, List.length_map]; omega) | (simp <;> fail))); conv => whnf) | (refine ⟨_, rfl, ?_⟩; conv => whnf)))
    refine Both.dec (fun hone => ?_) (fun hmore => ?_)
    · have hl1 : l.length ≤ 1 := by omega
      rw [pathP_one hl1, List.append_nil] at h
      (conv => whnf)
      (repeat (first | (exact Out.same; conv => whnf) | (exact Out1.same; conv => whnf) | (refine QAnd.mk ?_ ?_; conv => whnf) | (apply QStepH.go; conv => whnf) | (refine Both.lit_true ?_; conv => whnf) | (refine Both.lit_false ?_; conv => whnf) | (apply QStep.go; conv => whnf) | (refine Need.mk ?_ ?_; (focus (first | omega | exact ⟨by omega, by omega⟩ | rfl | exact ⟨rfl, rfl⟩ | exact ⟨rfl, by omega, by omega⟩ | exact ⟨by omega, by omega, by omega⟩ | exact ⟨rfl, Nat.le_of_ble_eq_true rfl⟩ | exact Nat.le_of_ble_eq_true rfl | (refine ⟨rfl, rfl, ?_⟩; simp [isFar, ofV0, CV.up, SV.renL, SV.ren] <;> fail) | (refine ⟨rfl, Nat.le_of_ble_eq_true rfl, ?_⟩; simp [isFar, ofV0, CV.up, SV.renL, SV.ren] <;> fail) | (simp only [List.length_append, List.length_drop, List.length_take, List.length_replicate, List.length_map]; omega) | (simp <;> fail))); conv => whnf) | (refine ⟨_, rfl, ?_⟩; conv => whnf)))
      refine ⟨_, _, WeakV.of ((Weak.fresh 2 1 0 rfl rfl rfl).trans (Weak.auto ?_)), h⟩
      (repeat' ((conv => whnf); first | exact True.intro | (refine And.intro ?_ ?_)))
      all_goals first | rfl | exact .eq rfl
    · have hn1 : ¬ l.length ≤ 1 := by omega
      have hlt := lft_lt (n := l.length) (by omega)
      have hpos := lft_pos l.length
      rw [pathP_two hn1] at h
      have hcl := cut_lo l (k := lft l.length) (by omega)
      have hch := cut_hi l (k := lft l.length) (by omega)
      have l1 : (l.take (lft l.length)).length = lft l.length := by rw [List.length_take]; omega
      have l2 : (l.drop (lft l.length)).length = l.length - lft l.length := List.length_drop
      have o1 : ∀ p ∈ l.take (lft l.length), okP p := fun p hp => hok p (List.mem_of_mem_take hp)
      have o2 : ∀ p ∈ l.drop (lft l.length), okP p := fun p hp => hok p (List.mem_of_mem_drop hp)
      revert h hlt hpos hcl hch l1 l2 o1 o2
      generalize hg : lft l.length = g
      generalize ha : l.take g = la
      generalize hb : l.drop g = lb
      intro h hlt hpos hcl hch l1 l2 o1 o2
      have c1 : ti38.size = 2 ∧ (0 : Int) ≤ 0 ∧ (0 : Int) ≤ ((g : Nat) : Int) ∧ ((g : Nat) : Int) ≤ ((l.length : Nat) : Int) := ⟨rfl, by omega, by omega, by omega⟩
      have c2 : ti38.size = 2 ∧ 0 ≤ ((g : Nat) : Int) ∧ ((g : Nat) : Int) ≤ ((l.length : Nat) : Int) ∧ ((l.length : Nat) : Int) ≤ ((l.length : Nat) : Int) := ⟨rfl, by omega, by omega, by omega⟩
      have n1 : ((g : Nat) : Int).toNat - (0 : Int).toNat = la.length := by rw [l1]; rfl
      have n2 : ((l.length : Nat) : Int).toNat - ((g : Nat) : Int).toNat = lb.length := by rw [l2]; rfl
      have nb : la.length ≤ m ∧ 0 < la.length ∧ la.length < 60000 ∧ lb.length ≤ m ∧ 0 < lb.length ∧ lb.length < 60000 := by omega
      obtain ⟨b1, b2, b3, b4, b5, b6⟩ := nb
      have hb16 : ti9.bytes = 16 := rfl
      (conv => whnf)
      (repeat (first | (exact Out.same; conv => whnf) | (exact Out1.same; conv => whnf) | (refine QAnd.mk ?_ ?_; conv => whnf) | (apply QStepH.go; conv => whnf) | (refine Both.lit_true ?_; conv => whnf) | (refine Both.lit_false ?_; conv => whnf) | (apply QStep.go; conv => whnf) | (refine Need.mk ?_ ?_; (focus (first | omega | exact ⟨by omega, by omega⟩ | rfl | exact ⟨rfl, rfl⟩ | exact ⟨rfl, by omega, by omega⟩ | exact ⟨by omega, by omega, by omega⟩ | exact ⟨rfl, Nat.le_of_ble_eq_true rfl⟩ | exact Nat.le_of_ble_eq_true rfl | (refine ⟨rfl, rfl, ?_⟩; simp [isFar, ofV0, CV.up, SV.renL, SV.ren] <;> fail) | (refine ⟨rfl, Nat.le_of_ble_eq_true rfl, ?_⟩; simp [isFar, ofV0, CV.up, SV.renL, SV.ren] <;> fail) | (simp only [List.length_append, List.length_drop, List.length_take, List.length_replicate, List.length_map]; omega) | (simp <;> fail))); conv => whnf) | (refine ⟨_, rfl, ?_⟩; conv => whnf)))
      refine CallVC.auto (lft_k.gl (G := [(0, y0 :: cs0)])) ⟨l.length, rfl, by omega, by omega, ?_⟩
      rw [hg]
      (conv => whnf)
      (repeat (first | (exact Out.same; conv => whnf) | (exact Out1.same; conv => whnf) | (refine QAnd.mk ?_ ?_; conv => whnf) | (apply QStepH.go; conv => whnf) | (refine Both.lit_true ?_; conv => whnf) | (refine Both.lit_false ?_; conv => whnf) | (apply QStep.go; conv => whnf) | (refine Need.mk ?_ ?_; (focus (first | omega | exact ⟨by omega, by omega⟩ | rfl | exact ⟨rfl, rfl⟩ | exact ⟨rfl, by omega, by omega⟩ | exact ⟨by omega, by omega, by omega⟩ | exact ⟨rfl, Nat.le_of_ble_eq_true rfl⟩ | exact Nat.le_of_ble_eq_true rfl | (refine ⟨rfl, rfl, ?_⟩; simp [isFar, ofV0, CV.up, SV.renL, SV.ren] <;> fail) | (refine ⟨rfl, Nat.le_of_ble_eq_true rfl, ?_⟩; simp [isFar, ofV0, CV.up, SV.renL, SV.ren] <;> fail) | (simp only [List.length_append, List.length_drop, List.length_take, List.length_replicate, List.length_map]; omega) | (simp <;> fail))); conv => whnf) | (refine ⟨_, rfl, ?_⟩; conv => whnf)))
      refine Both.dec (fun hlo => ?_) (fun hhi => ?_)
      · rw [if_pos (by omega)] at h
        have hp := path_lt la i b2
        have s1 : ((acc ++ pathP la i).length + 1) * ti9.bytes ≤ 140737488355328 := by rw [hb16, List.length_append]; omega
        have hobj : LObj.own 9 1 ((acc ++ pathP la i).length + 1) (strs (acc ++ pathP la i) ++ [CV.str (dgP lb)]) true = LObj.own 9 1 (acc ++ (pathP la i ++ [dgP lb])).length (strs (acc ++ (pathP la i ++ [dgP lb]))) true := by
          rw [← List.append_assoc, List.length_append (bs := [dgP lb]), ← strs_app (acc ++ pathP la i)]
          rfl
        (conv => whnf)
        (refine DrawVC.any Γok (by kernel_rfl) (by kernel_rfl) (by kernel_rfl) (by rfl) ?_; conv => whnf)
        (repeat (first | (refine Need.mk c1 ?_; conv => whnf) | (refine CallClo.auto ih ⟨la, i, acc, n1, hcl, rfl, by omega, b1, b3, o1, rfl, rfl, by omega, ?_⟩; conv => whnf) | (exact Out.same; conv => whnf) | (exact Out1.same; conv => whnf) | (refine QAnd.mk ?_ ?_; conv => whnf) | (apply QStepH.go; conv => whnf) | (refine Both.lit_true ?_; conv => whnf) | (refine Both.lit_false ?_; conv => whnf) | (apply QStep.go; conv => whnf) | (refine Need.mk ?_ ?_; (focus (first | omega | exact ⟨by omega, by omega⟩ | rfl | exact ⟨rfl, rfl⟩ | exact ⟨rfl, by omega, by omega⟩ | exact ⟨by omega, by omega, by omega⟩ | exact ⟨rfl, Nat.le_of_ble_eq_true rfl⟩ | exact Nat.le_of_ble_eq_true rfl | (refine ⟨rfl, rfl, ?_⟩; simp [isFar, ofV0, CV.up, SV.renL, SV.ren] <;> fail) | (refine ⟨rfl, Nat.le_of_ble_eq_true rfl, ?_⟩; simp [isFar, ofV0, CV.up, SV.renL, SV.ren] <;> fail) | (simp only [List.length_append, List.length_drop, List.length_take, List.length_replicate, List.length_map]; omega) | (simp <;> fail))); conv => whnf) | (refine ⟨_, rfl, ?_⟩; conv => whnf)))
        (refine DrawVC.any Γok (by kernel_rfl) (by kernel_rfl) (by kernel_rfl) (by rfl) ?_; conv => whnf)
        (repeat (first | (refine Need.mk c2 ?_; conv => whnf) | (refine CallVC.auto (mdig_k hK lb.length) ⟨lb, n2, hch, b5, Nat.le_refl _, b6, o2, ?_⟩; conv => whnf) | (refine Need.mk s1 ?_; conv => whnf) | (exact Out.same; conv => whnf) | (exact Out1.same; conv => whnf) | (refine QAnd.mk ?_ ?_; conv => whnf) | (apply QStepH.go; conv => whnf) | (refine Both.lit_true ?_; conv => whnf) | (refine Both.lit_false ?_; conv => whnf) | (apply QStep.go; conv => whnf) | (refine Need.mk ?_ ?_; (focus (first | omega | exact ⟨by omega, by omega⟩ | rfl | exact ⟨rfl, rfl⟩ | exact ⟨rfl, by omega, by omega⟩ | exact ⟨by omega, by omega, by omega⟩ | exact ⟨rfl, Nat.le_of_ble_eq_true rfl⟩ | exact Nat.le_of_ble_eq_true rfl | (refine ⟨rfl, rfl, ?_⟩; simp [isFar, ofV0, CV.up, SV.renL, SV.ren] <;> fail) | (refine ⟨rfl, Nat.le_of_ble_eq_true rfl, ?_⟩; simp [isFar, ofV0, CV.up, SV.renL, SV.ren] <;> fail) | (simp only [List.length_append, List.length_drop, List.length_take, List.length_replicate, List.length_map]; omega) | (simp <;> fail))); conv => whnf) | (refine ⟨_, rfl, ?_⟩; conv => whnf)))
        refine ⟨_, _, WeakV.auto ?_, h⟩
        (repeat' ((conv => whnf); first | exact True.intro | (refine And.intro ?_ ?_)))
        all_goals first | exact hobj | rfl | exact .eq rfl
      · rw [if_neg (by omega)] at h
        have hp := path_lt lb (i - g) b5
        have s1 : ((acc ++ pathP lb (i - g)).length + 1) * ti9.bytes ≤ 140737488355328 := by rw [hb16, List.length_append]; omega
        have hwi : IntKind.i64.wrap ((i : Int) - (g : Int)) = ((i - g : Nat) : Int) := by rw [wrap_i64 (by omega) (by omega)]; omega
        have hobj : LObj.own 9 1 ((acc ++ pathP lb (i - g)).length + 1) (strs (acc ++ pathP lb (i - g)) ++ [CV.str (dgP la)]) true = LObj.own 9 1 (acc ++ (pathP lb (i - g) ++ [dgP la])).length (strs (acc ++ (pathP lb (i - g) ++ [dgP la]))) true := by
          rw [← List.append_assoc, List.length_append (bs := [dgP la]), ← strs_app (acc ++ pathP lb (i - g))]
          rfl
        (conv => whnf)
        (repeat (first | (exact Out.same; conv => whnf) | (exact Out1.same; conv => whnf) | (refine QAnd.mk ?_ ?_; conv => whnf) | (apply QStepH.go; conv => whnf) | (refine Both.lit_true ?_; conv => whnf) | (refine Both.lit_false ?_; conv => whnf) | (apply QStep.go; conv => whnf) | (refine Need.mk ?_ ?_; (focus (first | omega | exact ⟨by omega, by omega⟩ | rfl | exact ⟨rfl, rfl⟩ | exact ⟨rfl, by omega, by omega⟩ | exact ⟨by omega, by omega, by omega⟩ | exact ⟨rfl, Nat.le_of_ble_eq_true rfl⟩ | exact Nat.le_of_ble_eq_true rfl | (refine ⟨rfl, rfl, ?_⟩; simp [isFar, ofV0, CV.up, SV.renL, SV.ren] <;> fail) | (refine ⟨rfl, Nat.le_of_ble_eq_true rfl, ?_⟩; simp [isFar, ofV0, CV.up, SV.renL, SV.ren] <;> fail) | (simp only [List.length_append, List.length_drop, List.length_take, List.length_replicate, List.length_map]; omega) | (simp <;> fail))); conv => whnf) | (refine ⟨_, rfl, ?_⟩; conv => whnf)))
        (refine DrawVC.any Γok (by kernel_rfl) (by kernel_rfl) (by kernel_rfl) (by rfl) ?_; conv => whnf)
        (repeat (first | (refine Need.mk c2 ?_; conv => whnf) | (refine CallClo.auto ih ⟨lb, i - g, acc, n2, hch, hwi, by omega, b4, b6, o2, rfl, rfl, by omega, ?_⟩; conv => whnf) | (exact Out.same; conv => whnf) | (exact Out1.same; conv => whnf) | (refine QAnd.mk ?_ ?_; conv => whnf) | (apply QStepH.go; conv => whnf) | (refine Both.lit_true ?_; conv => whnf) | (refine Both.lit_false ?_; conv => whnf) | (apply QStep.go; conv => whnf) | (refine Need.mk ?_ ?_; (focus (first | omega | exact ⟨by omega, by omega⟩ | rfl | exact ⟨rfl, rfl⟩ | exact ⟨rfl, by omega, by omega⟩ | exact ⟨by omega, by omega, by omega⟩ | exact ⟨rfl, Nat.le_of_ble_eq_true rfl⟩ | exact Nat.le_of_ble_eq_true rfl | (refine ⟨rfl, rfl, ?_⟩; simp [isFar, ofV0, CV.up, SV.renL, SV.ren] <;> fail) | (refine ⟨rfl, Nat.le_of_ble_eq_true rfl, ?_⟩; simp [isFar, ofV0, CV.up, SV.renL, SV.ren] <;> fail) | (simp only [List.length_append, List.length_drop, List.length_take, List.length_replicate, List.length_map]; omega) | (simp <;> fail))); conv => whnf) | (refine ⟨_, rfl, ?_⟩; conv => whnf)))
        (refine DrawVC.any Γok (by kernel_rfl) (by kernel_rfl) (by kernel_rfl) (by rfl) ?_; conv => whnf)
        (repeat (first | (refine Need.mk c1 ?_; conv => whnf) | (refine CallVC.auto (mdig_k hK la.length) ⟨la, n1, hcl, b2, Nat.le_refl _, b3, o1, ?_⟩; conv => whnf) | (refine Need.mk s1 ?_; conv => whnf) | (exact Out.same; conv => whnf) | (exact Out1.same; conv => whnf) | (refine QAnd.mk ?_ ?_; conv => whnf) | (apply QStepH.go; conv => whnf) | (refine Both.lit_true ?_; conv => whnf) | (refine Both.lit_false ?_; conv => whnf) | (apply QStep.go; conv => whnf) | (refine Need.mk ?_ ?_; (focus (first | omega | exact ⟨by omega, by omega⟩ | rfl | exact ⟨rfl, rfl⟩ | exact ⟨rfl, by omega, by omega⟩ | exact ⟨by omega, by omega, by omega⟩ | exact ⟨rfl, Nat.le_of_ble_eq_true rfl⟩ | exact Nat.le_of_ble_eq_true rfl | (refine ⟨rfl, rfl, ?_⟩; simp [isFar, ofV0, CV.up, SV.renL, SV.ren] <;> fail) | (refine ⟨rfl, Nat.le_of_ble_eq_true rfl, ?_⟩; simp [isFar, ofV0, CV.up, SV.renL, SV.ren] <;> fail) | (simp only [List.length_append, List.length_drop, List.length_take, List.length_replicate, List.length_map]; omega) | (simp <;> fail))); conv => whnf) | (refine ⟨_, rfl, ?_⟩; conv => whnf)))
        refine ⟨_, _, WeakV.auto ?_, h⟩
        (repeat' ((conv => whnf); first | exact True.intro | (refine And.intro ?_ ?_)))
        all_goals first | exact hobj | rfl | exact .eq rfl
theorem pp_k {y0 : CV} {cs0 : List CV} (hK : KAt y0 cs0) (m : Nat) : Contract Tryd.prog [(0, y0 :: cs0)] 80 (ppS m) := ⟨⟨⟨_, rfl, rfl, rfl⟩⟩, pp_c hK m⟩
def pp0S (m : Nat) : Spec := fun args H Q => match args, H with
  | [.sl 2 n cs f, .int .i64 x, .ptr 0 0, .ptr 1 0], [.cells [.func (.func 80) [.ptr 0 0, .ptr 1 0]] 135, .cells [.nilsl] 39] =>
    ∃ (l : List Pr) (i : Nat), n = l.length ∧ cs = flP l ∧ x = i ∧ i < l.length ∧ l.length ≤ m ∧ l.length < 60000 ∧ (∀ p ∈ l, okP p) ∧
      Q (.tuple []) [fcell, .cells [.own 3] 39, .gone, .own 9 1 (pathP l i).length (strs (pathP l i)) true]
  | _, _ => False
theorem pp0_k {y0 : CV} {cs0 : List CV} (hK : KAt y0 cs0) (m : Nat) : Contract Tryd.prog [(0, y0 :: cs0)] 80 (pp0S m) := (pp_k hK m).weak fun args H Q h => by
  unfold pp0S at h
  split at h
  case h_2 => exact h.elim
  rename_i n cs f x
  obtain ⟨l, i, rfl, rfl, rfl, h1, h2, h3, h4, h⟩ := h
  refine ⟨_, Weak.ownNil 1 0 9 1 rfl rfl, l, i, [], rfl, rfl, rfl, h1, h2, h3, h4, rfl, rfl, ?_, ?_⟩
  · show 0 + l.length < 100000
    omega
  · exact h
def pathO (l : List Pr) (x : Int) : List Bs := if x < 0 ∨ (l.length : Int) ≤ x then [] else pathP l x.toNat
def mpathS : Spec := fun args H Q => match args, H with
  | [.sl 2 n cs f, .int .i64 x], [] => ∃ l : List Pr, n = l.length ∧ cs = flP l ∧ l.length < 60000 ∧ (∀ p ∈ l, okP p) ∧ Q (.own 0) [.own 9 1 (pathO l x).length (strs (pathO l x)) true]
  | _, _ => False
theorem mpath_c {y0 : CV} {cs0 : List CV} (hK : KAt y0 cs0) : Meets Tryd.prog [(0, y0 :: cs0)] 54 mpathS := by
  refine meets_of Γok Tryd.func54 rfl ?_
  intro args H Q h
  unfold mpathS at h
  split at h
  case h_2 => exact h.elim
  rename_i n cs f x
  obtain ⟨l, rfl, rfl, h60, hok, h⟩ := h
  have out : (x < 0 ∨ (l.length : Int) ≤ x) → Q (.own 0) [.own 9 1 0 [] true] := fun h9 => by
    unfold pathO at h
    rw [if_pos h9] at h
    exact h
  (refine sx_sound Γok _ ?_; conv => whnf)
  (repeat (first | (exact Out.same; conv => whnf) | (exact Out1.same; conv => whnf) | (refine QAnd.mk ?_ ?_; conv => whnf) | (apply QStepH.go; conv => whnf) | (refine Both.lit_true ?_; conv => whnf) | (refine Both.lit_false ?_; conv => whnf) | (apply QStep.go; conv => whnf) | (refine Need.mk ?_ ?_; (focus (first | omega | exact ⟨by omega, by omega⟩ | rfl | exact ⟨rfl, rfl⟩ | exact ⟨rfl, by omega, by omega⟩ | exact ⟨by omega, by omega, by omega⟩ | exact ⟨rfl, Nat.le_of_ble_eq_true rfl⟩ | exact Nat.le_of_ble_eq_true rfl | (refine ⟨rfl, rfl, ?_⟩; simp [isFar, ofV0, CV.up, SV.renL, SV.ren] <;> fail) | (refine ⟨rfl, Nat.le_of_ble_eq_true rfl, ?_⟩; simp [isFar, ofV0, CV.up, SV.renL, SV.ren] <;> fail) | (simp only [List.length_append, List.length_drop, List.length_take, List.length_replicate, List.length_map]; omega) | (simp <;> fail))); conv => whnf) | (refine ⟨_, rfl, ?_⟩; conv => whnf)))
  refine Both.dec (fun hneg => ?_) (fun hpos => ?_)
  · (conv => whnf)
    (repeat (first | (exact Out.same; conv => whnf) | (exact Out1.same; conv => whnf) | (refine QAnd.mk ?_ ?_; conv => whnf) | (apply QStepH.go; conv => whnf) | (refine Both.lit_true ?_; conv => whnf) | (refine Both.lit_false ?_; conv => whnf) | (apply QStep.go; conv => whnf) | (refine Need.mk ?_ ?_; (focus (first | omega | exact ⟨by omega, by omega⟩ | rfl | exact ⟨rfl, rfl⟩ | exact ⟨rfl, by omega, by omega⟩ | exact ⟨by omega, by omega, by omega⟩ | exact ⟨rfl, Nat.le_of_ble_eq_true rfl⟩ | exact Nat.le_of_ble_eq_true rfl | (refine ⟨rfl, rfl, ?_⟩; simp [isFar, ofV0, CV.up, SV.renL, SV.ren] <;> fail) | (refine ⟨rfl, Nat.le_of_ble_eq_true rfl, ?_⟩; simp [isFar, ofV0, CV.up, SV.renL, SV.ren] <;> fail) | (simp only [List.length_append, List.length_drop, List.length_take, List.length_replicate, List.length_map]; omega) | (simp <;> fail))); conv => whnf) | (refine ⟨_, rfl, ?_⟩; conv => whnf) | (refine Both.of_false ?_ ?_; (focus (first | rfl | (simp <;> fail))); conv => whnf) | (refine Both.of_true ?_ ?_; (focus (first | rfl | (simp <;> fail))); conv => whnf)))
    refine ⟨_, _, WeakV.of ((Weak.ownNilT 0 9 1 rfl).trans (Weak.auto ?_)), out (.inl hneg)⟩
    (repeat' ((conv => whnf); first | exact True.intro | (refine And.intro ?_ ?_)))
    all_goals first | rfl | exact .eq rfl
  · (conv => whnf)
    (repeat (first | (exact Out.same; conv => whnf) | (exact Out1.same; conv => whnf) | (refine QAnd.mk ?_ ?_; conv => whnf) | (apply QStepH.go; conv => whnf) | (refine Both.lit_true ?_; conv => whnf) | (refine Both.lit_false ?_; conv => whnf) | (apply QStep.go; conv => whnf) | (refine Need.mk ?_ ?_; (focus (first | omega | exact ⟨by omega, by omega⟩ | rfl | exact ⟨rfl, rfl⟩ | exact ⟨rfl, by omega, by omega⟩ | exact ⟨by omega, by omega, by omega⟩ | exact ⟨rfl, Nat.le_of_ble_eq_true rfl⟩ | exact Nat.le_of_ble_eq_true rfl | (refine ⟨rfl, rfl, ?_⟩; simp [isFar, ofV0, CV.up, SV.renL, SV.ren] <;> fail) | (refine ⟨rfl, Nat.le_of_ble_eq_true rfl, ?_⟩; simp [isFar, ofV0, CV.up, SV.renL, SV.ren] <;> fail) | (simp only [List.length_append, List.length_drop, List.length_take, List.length_replicate, List.length_map]; omega) | (simp <;> fail))); conv => whnf) | (refine ⟨_, rfl, ?_⟩; conv => whnf)))
    refine Both.dec (fun hbig => ?_) (fun hin => ?_)
    · (conv => whnf)
      (repeat (first | (exact Out.same; conv => whnf) | (exact Out1.same; conv => whnf) | (refine QAnd.mk ?_ ?_; conv => whnf) | (apply QStepH.go; conv => whnf) | (refine Both.lit_true ?_; conv => whnf) | (refine Both.lit_false ?_; conv => whnf) | (apply QStep.go; conv => whnf) | (refine Need.mk ?_ ?_; (focus (first | omega | exact ⟨by omega, by omega⟩ | rfl | exact ⟨rfl, rfl⟩ | exact ⟨rfl, by omega, by omega⟩ | exact ⟨by omega, by omega, by omega⟩ | exact ⟨rfl, Nat.le_of_ble_eq_true rfl⟩ | exact Nat.le_of_ble_eq_true rfl | (refine ⟨rfl, rfl, ?_⟩; simp [isFar, ofV0, CV.up, SV.renL, SV.ren] <;> fail) | (refine ⟨rfl, Nat.le_of_ble_eq_true rfl, ?_⟩; simp [isFar, ofV0, CV.up, SV.renL, SV.ren] <;> fail) | (simp only [List.length_append, List.length_drop, List.length_take, List.length_replicate, List.length_map]; omega) | (simp <;> fail))); conv => whnf) | (refine ⟨_, rfl, ?_⟩; conv => whnf) | (refine Both.of_false ?_ ?_; (focus (first | rfl | (simp <;> fail))); conv => whnf) | (refine Both.of_true ?_ ?_; (focus (first | rfl | (simp <;> fail))); conv => whnf)))
      refine ⟨_, _, WeakV.of ((Weak.ownNilT 0 9 1 rfl).trans (Weak.auto ?_)), out (.inr hbig)⟩
      (repeat' ((conv => whnf); first | exact True.intro | (refine And.intro ?_ ?_)))
      all_goals first | rfl | exact .eq rfl
    · unfold pathO at h
      rw [if_neg (by omega)] at h
      have hx : x = ((x.toNat : Nat) : Int) := by omega
      have hxl : x.toNat < l.length := by omega
      (conv => whnf)
      (repeat (first | (exact Out.same; conv => whnf) | (exact Out1.same; conv => whnf) | (refine QAnd.mk ?_ ?_; conv => whnf) | (apply QStepH.go; conv => whnf) | (refine Both.lit_true ?_; conv => whnf) | (refine Both.lit_false ?_; conv => whnf) | (apply QStep.go; conv => whnf) | (refine Need.mk ?_ ?_; (focus (first | omega | exact ⟨by omega, by omega⟩ | rfl | exact ⟨rfl, rfl⟩ | exact ⟨rfl, by omega, by omega⟩ | exact ⟨by omega, by omega, by omega⟩ | exact ⟨rfl, Nat.le_of_ble_eq_true rfl⟩ | exact Nat.le_of_ble_eq_true rfl | (refine ⟨rfl, rfl, ?_⟩; simp [isFar, ofV0, CV.up, SV.renL, SV.ren] <;> fail) | (refine ⟨rfl, Nat.le_of_ble_eq_true rfl, ?_⟩; simp [isFar, ofV0, CV.up, SV.renL, SV.ren] <;> fail) | (simp only [List.length_append, List.length_drop, List.length_take, List.length_replicate, List.length_map]; omega) | (simp <;> fail))); conv => whnf) | (refine ⟨_, rfl, ?_⟩; conv => whnf) | (refine Both.of_false ?_ ?_; (focus (first | rfl | (simp <;> fail))); conv => whnf) | (refine Both.of_true ?_ ?_; (focus (first | rfl | (simp <;> fail))); conv => whnf)))
      refine CallClo.auto (pp0_k hK l.length) ⟨l, x.toNat, rfl, rfl, hx, hxl, Nat.le_refl _, h60, hok, ?_⟩
      (conv => whnf)
      (repeat (first | (exact Out.same; conv => whnf) | (exact Out1.same; conv => whnf) | (refine QAnd.mk ?_ ?_; conv => whnf) | (apply QStepH.go; conv => whnf) | (refine Both.lit_true ?_; conv => whnf) | (refine Both.lit_false ?_; conv => whnf) | (apply QStep.go; conv => whnf) | (refine Need.mk ?_ ?_; (focus (first | omega | exact ⟨by omega, by omega⟩ | rfl | exact ⟨rfl, rfl⟩ | exact ⟨rfl, by omega, by omega⟩ | exact ⟨by omega, by omega, by omega⟩ | exact ⟨rfl, Nat.le_of_ble_eq_true rfl⟩ | exact Nat.le_of_ble_eq_true rfl | (refine ⟨rfl, rfl, ?_⟩; simp [isFar, ofV0, CV.up, SV.renL, SV.ren] <;> fail) | (refine ⟨rfl, Nat.le_of_ble_eq_true rfl, ?_⟩; simp [isFar, ofV0, CV.up, SV.renL, SV.ren] <;> fail) | (simp only [List.length_append, List.length_drop, List.length_take, List.length_replicate, List.length_map]; omega) | (simp <;> fail))); conv => whnf) | (refine ⟨_, rfl, ?_⟩; conv => whnf)))
      refine ⟨_, _, WeakV.auto ?_, h⟩
      (repeat' ((conv => whnf); first | exact True.intro | (refine And.intro ?_ ?_)))
      all_goals first | rfl | exact .eq rfl
theorem mpath_k {y0 : CV} {cs0 : List CV} (hK : KAt y0 cs0) : Contract Tryd.prog [(0, y0 :: cs0)] 54 mpathS := ⟨⟨⟨_, rfl, rfl, rfl⟩⟩, mpath_c hK⟩
theorem strs_at (l : List Bs) {k : Nat} (h : k < l.length) : (strs l)[((k : Nat) : Int).toNat]? = some (CV.str (l.getD k [])) := parts_at l k h
end Go.LX
end
section
set_option maxRecDepth 100000
set_option maxHeartbeats 2000000
set_option autoImplicit false
set_option linter.unusedVariables false
set_option linter.unusedSimpArgs false
namespace Go.LX
open Go.Proofs

end Go.LX
end
section
set_option maxRecDepth 100000
set_option maxHeartbeats 2000000
set_option autoImplicit false
set_option linter.unusedVariables false
set_option linter.unusedSimpArgs false
namespace Go.LX
open Go.Proofs

end Go.LX
end
section
set_option maxRecDepth 100000
set_option maxHeartbeats 2000000
set_option autoImplicit false
set_option linter.unusedVariables false
set_option linter.unusedSimpArgs false
namespace Go.LX
open Go.Proofs

theorem getD_32 (p : List Bs) {k : Nat} (hk : k < p.length) (h : (p.getD k []).length = 32) (hall : ∀ j, j < k → (p.getD j []).length = 32) : ∀ j, j < k + 1 → (p.getD j []).length = 32 := fun j hj => by
  rcases Nat.lt_or_ge j k with h9 | h9
  · exact hall j h9
  · rw [show j = k by omega]; exact h
end Go.LX
end
section
set_option maxRecDepth 100000
set_option maxHeartbeats 2000000
set_option autoImplicit false
set_option linter.unusedVariables false
set_option linter.unusedSimpArgs false
namespace Go.LX
open Go.Proofs

theorem less_tri0 : ∀ a b : Bs, lessS a b = !(lessS b a || decide (a = b))
  | [], [] => by simp [lessS, Op.bytesLess]
  | [], y :: t => by simp [lessS, Op.bytesLess]
  | x :: s, [] => by simp [lessS, Op.bytesLess]
  | x :: s, y :: t => by
    have ih := less_tri0 s t
    unfold lessS at ih ⊢
    unfold Op.bytesLess
    by_cases h1 : x < y
    · have h2 : ¬ y < x := UInt8.lt_asymm h1
      have h3 : x ≠ y := UInt8.ne_of_lt h1
      simp [h1, h2, h3, h3.symm]
    · by_cases h2 : y < x
      · have h3 : x ≠ y := fun h => by rw [h] at h2; exact UInt8.lt_irrefl _ h2
        simp [h1, h2, h3]
      · have h3 : x = y := by
          rcases UInt8.lt_or_eq_of_le (UInt8.not_lt.1 h2) with h | h
          · exact absurd h h1
          · exact h
        subst h3
        simp [ih]
theorem less_tri (a b : Bs) : lessS a b = !(lessS b a || decide (b = a)) := by
  rw [less_tri0 a b]
  simp [eq_comm]
def kAt (l : List Pr) (j : Nat) : Bs := (l.getD j ([], [])).1
def ordB : List Pr → Bool
  | a :: b :: r => lessS a.1 b.1 && ordB (b :: r)
  | _ => true
end Go.LX
end
section
set_option maxRecDepth 100000
set_option maxHeartbeats 2000000
set_option autoImplicit false
set_option linter.unusedVariables false
set_option linter.unusedSimpArgs false
namespace Go.LX
open Go.Proofs

end Go.LX
end
section
set_option maxRecDepth 100000
set_option maxHeartbeats 1000000
set_option autoImplicit false
set_option linter.unusedVariables false
set_option linter.unusedSimpArgs false
namespace Go.LX
open Go.Proofs

theorem Contract.post {P : Program} {G : Gl} {f : FuncId} {S S' : Spec} (hc : Contract P G f S) (h : ∀ args H Q, S' args H Q → S args H fun r H1 => ∃ r' H', WeakV G H.length r H1 r' H' ∧ Q r' H') : Contract P G f S' := by
  refine ⟨hc.ok, fun args H Q hs E w vs hv hr hg => ?_⟩
  refine (hc.meets args H _ (h args H Q hs) E w vs hv hr hg).mono ?_
  rintro e w' ⟨v, r, H1, E1, h1, ⟨r', H', hw, hq⟩, h3, h4, h5, h6⟩
  obtain ⟨E2, a1, a2, a3, a4, a5⟩ := hw E E1 w' v hr.len.symm h6 h3 h4 (hg.kept h5.Imono fun b hb => h5.keep b (hr.ltI b hb) fun q => hr.imm b q hb)
  exact ⟨v, r', H', E2, h1, hq, a2, a3, h5.trans a5, a1⟩
theorem WpX.postWeak {P : Program} {G : Gl} {N : Nat} {X : Cx} {c : Code} {s : LS} {K : Exit → LS → Prop} (h : WpX P G N X c s fun e s' => ∃ s2, Weak G N s' s2 ∧ K e s2) : WpX P G N X c s K := fun A E w a hA hs hJ =>
  wpIn_mono (h A E w a hA hs hJ) fun e a' w' ⟨a0, e0, s1, E1, ⟨s2, hw, hk⟩, h2, h3⟩ => by
    obtain ⟨E2, q1, q2⟩ := hw A E1 w' a0 hA h2
    exact ⟨a0, e0, s2, E2, hk, q1, h3.trans q2⟩
theorem DrawVC.postWeak {P : Program} {Γ : Ty} {G : Gl} {N id : Nat} {ops : Array Oper} {s : LS} {K : Exit → LS → Prop} (h : DrawVC P Γ G N id ops s fun e s' => ∃ s2, Weak G N s' s2 ∧ K e s2) : DrawVC P Γ G N id ops s K := ⟨fun X hX => WpX.postWeak (h.out X hX)⟩
end Go.LX
end
section
set_option maxRecDepth 100000
set_option maxHeartbeats 1000000
set_option autoImplicit false
set_option linter.unusedVariables false
set_option linter.unusedSimpArgs false
namespace Go.LX
open Go.Proofs

theorem less_cons (x y : UInt8) (a b : Bs) : lessS (x :: a) (y :: b) = true ↔ x < y ∨ x = y ∧ lessS a b = true := by
  unfold lessS
  rw [show Op.bytesLess (x :: a) (y :: b) = (decide (x < y) || (x == y && Op.bytesLess a b)) from rfl]
  simp only [Bool.or_eq_true, Bool.and_eq_true, decide_eq_true_eq, beq_iff_eq]
theorem less_nil (b : Bs) : lessS b [] = false := by cases b <;> rfl
theorem less_trans : ∀ a b c : Bs, lessS a b = true → lessS b c = true → lessS a c = true
  | a, b, [], _, h2 => by rw [less_nil] at h2; cases h2
  | a, [], c, h1, _ => by rw [less_nil] at h1; cases h1
  | [], b, z :: c, _, _ => rfl
  | x :: a, y :: b, z :: c, h1, h2 => by
    rw [less_cons] at h1 h2 ⊢
    rcases h1 with h1 | ⟨rfl, h1⟩
    · rcases h2 with h2 | ⟨rfl, h2⟩
      · exact .inl (UInt8.lt_trans h1 h2)
      · exact .inl h1
    · rcases h2 with h2 | ⟨rfl, h2⟩
      · exact .inl h2
      · exact .inr ⟨rfl, less_trans a b c h1 h2⟩
def sortB (l : List Pr) : Prop := ∀ j, j + 1 < l.length → lessS (kAt l j) (kAt l (j + 1)) = true
theorem sort_less {l : List Pr} (h : sortB l) : ∀ (d j : Nat), j + (d + 1) < l.length → lessS (kAt l j) (kAt l (j + (d + 1))) = true
  | 0, j, hj => h j hj
  | d + 1, j, hj => less_trans _ _ _ (sort_less h d j (by omega)) (h (j + (d + 1)) (by omega))
theorem sort_down {l : List Pr} (h : sortB l) {t : Bs} {j k : Nat} (hjk : j ≤ k) (hk : k < l.length) (ht : lessS (kAt l k) t = true) : lessS (kAt l j) t = true := by
  rcases Nat.lt_or_ge j k with q | q
  · have := sort_less h (k - j - 1) j (by omega)
    rw [show j + (k - j - 1 + 1) = k by omega] at this
    exact less_trans _ _ _ this ht
  · rw [show j = k by omega]
    exact ht
structure IsPlace (l : List Pr) (t : Bs) (n : Nat) : Prop where
  le : n ≤ l.length
  lo : ∀ j, j < n → lessS (kAt l j) t = true
  hi : ∀ j, n ≤ j → j < l.length → lessS (kAt l j) t = false
theorem IsPlace.eq {l : List Pr} {t : Bs} {n m : Nat} (h1 : IsPlace l t n) (h2 : IsPlace l t m) : n = m := by
  have l1 := h1.le
  have l2 := h2.le
  rcases Nat.lt_trichotomy n m with q | q | q
  · have e1 := h1.hi n (Nat.le_refl _) (by omega)
    rw [h2.lo n q] at e1
    cases e1
  · exact q
  · have e1 := h2.hi m (Nat.le_refl _) (by omega)
    rw [h1.lo m q] at e1
    cases e1
theorem ordB_sort : ∀ (l : List Pr), ordB l = true → sortB l
  | [], _, j, hj => by simp at hj
  | [_], _, j, hj => by simp at hj
  | a :: b :: r, h, j, hj => by
    rw [ordB, Bool.and_eq_true] at h
    match j with
    | 0 => exact h.1
    | j + 1 => exact ordB_sort (b :: r) h.2 j (by simpa using hj)
def nanS : Spec := fun args H Q => match args, H with
  | [.str s], [] => Q (.bool false) []
  | _, _ => False
theorem nan_c : Meets Tryd.prog [] 79 nanS := by
  refine meets_of Γok Tryd.func79 rfl ?_
  intro args H Q h
  unfold nanS at h
  split at h
  case h_2 => exact h.elim
  rename_i s
  have e : (!decide (s = s)) = false := by simp
  (refine sx_sound Γok _ ?_; conv => whnf)
  (repeat (first | (exact Out.same; conv => whnf) | (exact Out1.same; conv => whnf) | (refine QAnd.mk ?_ ?_; conv => whnf) | (apply QStepH.go; conv => whnf) | (refine Both.lit_true ?_; conv => whnf) | (refine Both.lit_false ?_; conv => whnf) | (apply QStep.go; conv => whnf) | (refine Need.mk ?_ ?_; (focus (first | omega | exact ⟨by omega, by omega⟩ | rfl | exact ⟨rfl, rfl⟩ | exact ⟨rfl, by omega, by omega⟩ | exact ⟨by omega, by omega, by omega⟩ | exact ⟨rfl, Nat.le_of_ble_eq_true rfl⟩ | exact Nat.le_of_ble_eq_true rfl | (refine ⟨rfl, rfl, ?_⟩; simp [isFar, ofV0, CV.up, SV.renL, SV.ren] <;> fail) | (refine ⟨rfl, Nat.le_of_ble_eq_true rfl, ?_⟩; simp [isFar, ofV0, CV.up, SV.renL, SV.ren] <;> fail) | (simp only [List.length_append, List.length_drop, List.length_take, List.length_replicate, List.length_map]; omega) | (simp <;> fail))); conv => whnf) | (refine ⟨_, rfl, ?_⟩; conv => whnf)))
  refine ⟨_, _, WeakV.drop rfl, ?_⟩
  exact (congrArg (fun b => Q (SV.bool b) []) e).mpr h
theorem nan_k : Contract Tryd.prog [] 79 nanS := ⟨⟨⟨_, rfl, rfl, rfl⟩⟩, nan_c⟩
def cmpV (a b : Bs) : Int := if lessS a b = true then -1 else if lessS b a = true then 1 else 0
def cmpS : Spec := fun args H Q => match args, H with
  | [.str a, .str b], [] => Q (.int .i64 (cmpV a b)) []
  | _, _ => False
theorem cmp_c : Meets Tryd.prog [] 53 cmpS := by
  refine meets_of Γok Tryd.func53 rfl ?_
  intro args H Q h
  unfold cmpS at h
  split at h
  case h_2 => exact h.elim
  rename_i a b
  unfold cmpV at h
  by_cases h1 : lessS a b = true
  · rw [if_pos h1] at h
    (refine sx_sound Γok _ ?_; conv => whnf)
    (repeat (first | (refine Both.of_true h1 ?_; conv => whnf) | (exact Out.same; conv => whnf) | (exact Out1.same; conv => whnf) | (refine QAnd.mk ?_ ?_; conv => whnf) | (apply QStepH.go; conv => whnf) | (refine Both.lit_true ?_; conv => whnf) | (refine Both.lit_false ?_; conv => whnf) | (apply QStep.go; conv => whnf) | (refine Need.mk ?_ ?_; (focus (first | omega | exact ⟨by omega, by omega⟩ | rfl | exact ⟨rfl, rfl⟩ | exact ⟨rfl, by omega, by omega⟩ | exact ⟨by omega, by omega, by omega⟩ | exact ⟨rfl, Nat.le_of_ble_eq_true rfl⟩ | exact Nat.le_of_ble_eq_true rfl | (refine ⟨rfl, rfl, ?_⟩; simp [isFar, ofV0, CV.up, SV.renL, SV.ren] <;> fail) | (refine ⟨rfl, Nat.le_of_ble_eq_true rfl, ?_⟩; simp [isFar, ofV0, CV.up, SV.renL, SV.ren] <;> fail) | (simp only [List.length_append, List.length_drop, List.length_take, List.length_replicate, List.length_map]; omega) | (simp <;> fail))); conv => whnf) | (refine ⟨_, rfl, ?_⟩; conv => whnf) | (refine CallVC.auto nan_k ?_; conv => whnf)))
    exact ⟨_, _, WeakV.drop rfl, h⟩
  · rw [if_neg h1] at h
    have h1 : lessS a b = false := by simpa using h1
    by_cases h2 : lessS b a = true
    · rw [if_pos h2] at h
      rw [less_tri b a] at h2
      (refine sx_sound Γok _ ?_; conv => whnf)
      (repeat (first | (refine Both.of_false h1 ?_; conv => whnf) | (refine Both.of_true h2 ?_; conv => whnf) | (exact Out.same; conv => whnf) | (exact Out1.same; conv => whnf) | (refine QAnd.mk ?_ ?_; conv => whnf) | (apply QStepH.go; conv => whnf) | (refine Both.lit_true ?_; conv => whnf) | (refine Both.lit_false ?_; conv => whnf) | (apply QStep.go; conv => whnf) | (refine Need.mk ?_ ?_; (focus (first | omega | exact ⟨by omega, by omega⟩ | rfl | exact ⟨rfl, rfl⟩ | exact ⟨rfl, by omega, by omega⟩ | exact ⟨by omega, by omega, by omega⟩ | exact ⟨rfl, Nat.le_of_ble_eq_true rfl⟩ | exact Nat.le_of_ble_eq_true rfl | (refine ⟨rfl, rfl, ?_⟩; simp [isFar, ofV0, CV.up, SV.renL, SV.ren] <;> fail) | (refine ⟨rfl, Nat.le_of_ble_eq_true rfl, ?_⟩; simp [isFar, ofV0, CV.up, SV.renL, SV.ren] <;> fail) | (simp only [List.length_append, List.length_drop, List.length_take, List.length_replicate, List.length_map]; omega) | (simp <;> fail))); conv => whnf) | (refine ⟨_, rfl, ?_⟩; conv => whnf) | (refine CallVC.auto nan_k ?_; conv => whnf)))
      exact ⟨_, _, WeakV.drop rfl, h⟩
    · rw [if_neg h2] at h
      have h2 : lessS b a = false := by simpa using h2
      rw [less_tri b a] at h2
      (refine sx_sound Γok _ ?_; conv => whnf)
      (repeat (first | (refine Both.of_false h1 ?_; conv => whnf) | (refine Both.of_false h2 ?_; conv => whnf) | (exact Out.same; conv => whnf) | (exact Out1.same; conv => whnf) | (refine QAnd.mk ?_ ?_; conv => whnf) | (apply QStepH.go; conv => whnf) | (refine Both.lit_true ?_; conv => whnf) | (refine Both.lit_false ?_; conv => whnf) | (apply QStep.go; conv => whnf) | (refine Need.mk ?_ ?_; (focus (first | omega | exact ⟨by omega, by omega⟩ | rfl | exact ⟨rfl, rfl⟩ | exact ⟨rfl, by omega, by omega⟩ | exact ⟨by omega, by omega, by omega⟩ | exact ⟨rfl, Nat.le_of_ble_eq_true rfl⟩ | exact Nat.le_of_ble_eq_true rfl | (refine ⟨rfl, rfl, ?_⟩; simp [isFar, ofV0, CV.up, SV.renL, SV.ren] <;> fail) | (refine ⟨rfl, Nat.le_of_ble_eq_true rfl, ?_⟩; simp [isFar, ofV0, CV.up, SV.renL, SV.ren] <;> fail) | (simp only [List.length_append, List.length_drop, List.length_take, List.length_replicate, List.length_map]; omega) | (simp <;> fail))); conv => whnf) | (refine ⟨_, rfl, ?_⟩; conv => whnf) | (refine CallVC.auto nan_k ?_; conv => whnf)))
      exact ⟨_, _, WeakV.drop rfl, h⟩
theorem cmp_k : Contract Tryd.prog [] 53 cmpS := ⟨⟨⟨_, rfl, rfl, rfl⟩⟩, cmp_c⟩
def find1S : Spec := fun args H Q => match args, H with
  | [.agg [.str k, .str v], .str t], [] => Q (.int .i64 (cmpV k t)) []
  | _, _ => False
theorem find1_c : Meets Tryd.prog [] 52 find1S := by
  refine meets_of Γok Tryd.func52 rfl ?_
  intro args H Q h
  unfold find1S at h
  split at h
  case h_2 => exact h.elim
  (refine sx_sound Γok _ ?_; conv => whnf)
  (repeat (first | (exact Out.same; conv => whnf) | (exact Out1.same; conv => whnf) | (refine QAnd.mk ?_ ?_; conv => whnf) | (apply QStepH.go; conv => whnf) | (refine Both.lit_true ?_; conv => whnf) | (refine Both.lit_false ?_; conv => whnf) | (apply QStep.go; conv => whnf) | (refine Need.mk ?_ ?_; (focus (first | omega | exact ⟨by omega, by omega⟩ | rfl | exact ⟨rfl, rfl⟩ | exact ⟨rfl, by omega, by omega⟩ | exact ⟨by omega, by omega, by omega⟩ | exact ⟨rfl, Nat.le_of_ble_eq_true rfl⟩ | exact Nat.le_of_ble_eq_true rfl | (refine ⟨rfl, rfl, ?_⟩; simp [isFar, ofV0, CV.up, SV.renL, SV.ren] <;> fail) | (refine ⟨rfl, Nat.le_of_ble_eq_true rfl, ?_⟩; simp [isFar, ofV0, CV.up, SV.renL, SV.ren] <;> fail) | (simp only [List.length_append, List.length_drop, List.length_take, List.length_replicate, List.length_map]; omega) | (simp <;> fail))); conv => whnf) | (refine ⟨_, rfl, ?_⟩; conv => whnf) | (refine CallVC.auto cmp_k ?_; conv => whnf)))
  exact ⟨_, _, WeakV.drop rfl, h⟩
theorem find1_k : Contract Tryd.prog [] 52 find1S := ⟨⟨⟨_, rfl, rfl, rfl⟩⟩, find1_c⟩
theorem cmp_lt (a b : Bs) : decide (cmpV a b < 0) = lessS a b := by
  unfold cmpV
  by_cases h1 : lessS a b = true
  · rw [if_pos h1, h1]
    rfl
  · rw [if_neg h1]
    have h1 : lessS a b = false := by simpa using h1
    rw [h1]
    by_cases h2 : lessS b a = true
    · rw [if_pos h2]
      rfl
    · rw [if_neg h2]
      rfl
theorem cmp_eq (a b : Bs) : decide (cmpV a b = 0) = decide (a = b) := by
  unfold cmpV
  have ht := less_tri0 a b
  by_cases h1 : lessS a b = true
  · rw [if_pos h1]
    rw [h1] at ht
    have : a ≠ b := fun e => by
      rw [decide_eq_true e, Bool.or_true] at ht
      cases ht
    rw [decide_eq_false this]
    rfl
  · rw [if_neg h1]
    have h1 : lessS a b = false := by simpa using h1
    rw [h1] at ht
    by_cases h2 : lessS b a = true
    · rw [if_pos h2]
      have : a ≠ b := fun e => by
        rw [e] at h2
        have h3 := less_tri0 b b
        rw [h2] at h3
        cases h3
      rw [decide_eq_false this]
      rfl
    · rw [if_neg h2]
      have h2 : lessS b a = false := by simpa using h2
      rw [h2, Bool.false_or] at ht
      have : a = b := by simpa using ht
      rw [decide_eq_true this]
      rfl
def bsfS : Spec := fun args H Q => match args, H with
  | [.sl 2 n cs f, .str t, .func (.func 52) []], [] => ∃ l : List Pr, n = l.length ∧ cs = flP l ∧ l.length ≤ 1000000 ∧ sortB l ∧ ∀ k, IsPlace l t k → Q (.tuple [.int .i64 (k : Int), .bool (decide (k < l.length ∧ kAt l k = t))]) []
  | _, _ => False
theorem bsf_c : Meets Tryd.prog [] 51 bsfS := by
  refine meets_of Γok Tryd.func51 rfl ?_
  intro args H Q h
  unfold bsfS at h
  split at h
  case h_2 => exact h.elim
  rename_i n cs f t
  obtain ⟨l, rfl, rfl, hl, hsort, h⟩ := h
  (refine sx_sound Γok _ ?_; conv => whnf)
  (repeat (first | (exact Out.same; conv => whnf) | (exact Out1.same; conv => whnf) | (refine QAnd.mk ?_ ?_; conv => whnf) | (apply QStepH.go; conv => whnf) | (refine Both.lit_true ?_; conv => whnf) | (refine Both.lit_false ?_; conv => whnf) | (apply QStep.go; conv => whnf) | (refine Need.mk ?_ ?_; (focus (first | omega | exact ⟨by omega, by omega⟩ | rfl | exact ⟨rfl, rfl⟩ | exact ⟨rfl, by omega, by omega⟩ | exact ⟨by omega, by omega, by omega⟩ | exact ⟨rfl, Nat.le_of_ble_eq_true rfl⟩ | exact Nat.le_of_ble_eq_true rfl | (refine ⟨rfl, rfl, ?_⟩; simp [isFar, ofV0, CV.up, SV.renL, SV.ren] <;> fail) | (refine ⟨rfl, Nat.le_of_ble_eq_true rfl, ?_⟩; simp [isFar, ofV0, CV.up, SV.renL, SV.ren] <;> fail) | (simp only [List.length_append, List.length_drop, List.length_take, List.length_replicate, List.length_map]; omega) | (simp <;> fail))); conv => whnf) | (refine ⟨_, rfl, ?_⟩; conv => whnf)))
  refine loop_rule (fun x : Nat × Nat => match x with | (i, j) => ⟨[.sl 2 l.length (flP l) f, .str t, .func (.func 52) [], .any, .any, .any, .any, .any, .int .i64 ((l.length : Nat) : Int), .int .i64 (i : Int), .int .i64 (j : Int), .any, .any, .any, .any, .any, .any, .any, .any, .any, .any, .any, .any, .any, .any, .any, .any, .any, .any, .any, .any, .any, .any, .any, .any, .any, .any, .any, .any, .any, .any, .any, .any, .any, .any, .any, .any, .any, .any], []⟩) (fun x => match x with | (i, j) => i ≤ j ∧ j ≤ l.length ∧ (∀ q, q < i → lessS (kAt l q) t = true) ∧ ∀ q, j ≤ q → q < l.length → lessS (kAt l q) t = false) (fun x => match x with | (i, j) => j - i) (0, l.length) ⟨Nat.zero_le _, Nat.le_refl _, fun q hq => absurd hq (by omega), fun q h1 h2 => absurd h2 (by omega)⟩ (Weak.auto ?_) ?_
  · (repeat' ((conv => whnf); first | exact True.intro | (refine And.intro ?_ ?_)))
    all_goals first | rfl | exact .eq rfl
  rintro ⟨i, j⟩ ⟨hij, hjl, hlo, hhi⟩
  (refine sx_sound Γok _ ?_; conv => whnf)
  (repeat (first | (exact Out.same; conv => whnf) | (exact Out1.same; conv => whnf) | (refine QAnd.mk ?_ ?_; conv => whnf) | (apply QStepH.go; conv => whnf) | (refine Both.lit_true ?_; conv => whnf) | (refine Both.lit_false ?_; conv => whnf) | (apply QStep.go; conv => whnf) | (refine Need.mk ?_ ?_; (focus (first | omega | exact ⟨by omega, by omega⟩ | rfl | exact ⟨rfl, rfl⟩ | exact ⟨rfl, by omega, by omega⟩ | exact ⟨by omega, by omega, by omega⟩ | exact ⟨rfl, Nat.le_of_ble_eq_true rfl⟩ | exact Nat.le_of_ble_eq_true rfl | (refine ⟨rfl, rfl, ?_⟩; simp [isFar, ofV0, CV.up, SV.renL, SV.ren] <;> fail) | (refine ⟨rfl, Nat.le_of_ble_eq_true rfl, ?_⟩; simp [isFar, ofV0, CV.up, SV.renL, SV.ren] <;> fail) | (simp only [List.length_append, List.length_drop, List.length_take, List.length_replicate, List.length_map]; omega) | (simp <;> fail))); conv => whnf) | (refine ⟨_, rfl, ?_⟩; conv => whnf)))
  refine Both.dec (fun hlt => ?_) (fun hge => ?_)
  · have hlt : i < j := by omega
    obtain ⟨m, hm⟩ : ∃ m, (i + j) / 2 = m := ⟨_, rfl⟩
    have hw1 : IntKind.i64.wrap ((i : Int) + (j : Int)) = ((i + j : Nat) : Int) := by rw [wrap_i64 (by omega) (by omega)]; rfl
    have hw2 : IntKind.u64.wrap ((i + j : Nat) : Int) = ((i + j : Nat) : Int) := wrap_u64 (by omega) (by omega)
    have hw3 : shrI .u64 ((i + j : Nat) : Int) 1 = (m : Int) := by
      unfold shrI
      rw [show min (1 : Int).toNat IntKind.u64.bits = 1 from rfl, show (2 : Int) ^ 1 = 2 from rfl, Int.fdiv_eq_ediv_of_nonneg _ (by omega)]
      omega
    have hw4 : IntKind.i64.wrap (m : Int) = (m : Int) := wrap_i64 (by omega) (by omega)
    have hmw : IntKind.i64.wrap (shrI .u64 (IntKind.u64.wrap (IntKind.i64.wrap ((i : Int) + (j : Int)))) 1) = (m : Int) := by rw [hw1, hw2, hw3, hw4]
    have hml : m < l.length := by omega
    have hat := flP_at l hml
    obtain ⟨R, hR⟩ : ∃ R, IntKind.i64.wrap (shrI .u64 (IntKind.u64.wrap (IntKind.i64.wrap ((i : Int) + (j : Int)))) 1) = R := ⟨_, rfl⟩
    have hRm : R = (m : Int) := hR.symm.trans hmw
    have hatR : ((flP l).drop ((IntKind.i64.wrap (shrI .u64 (IntKind.u64.wrap (IntKind.i64.wrap ((i : Int) + (j : Int)))) 1)).toNat * 2)).take 2 = _ := (congrArg (fun q : Int => ((flP l).drop (q.toNat * 2)).take 2) hmw).trans hat
    have hix : ti38.size = 2 ∧ (0 : Int) ≤ IntKind.i64.wrap (shrI .u64 (IntKind.u64.wrap (IntKind.i64.wrap ((i : Int) + (j : Int)))) 1) ∧ IntKind.i64.wrap (shrI .u64 (IntKind.u64.wrap (IntKind.i64.wrap ((i : Int) + (j : Int)))) 1) < ((l.length : Nat) : Int) := ⟨rfl, by rw [hmw]; omega, by rw [hmw]; omega⟩
    have hm1 : IntKind.i64.wrap (IntKind.i64.wrap (shrI .u64 (IntKind.u64.wrap (IntKind.i64.wrap ((i : Int) + (j : Int)))) 1) + 1) = ((m + 1 : Nat) : Int) := by rw [hmw, wrap_i64 (by omega) (by omega)]; rfl
    have hcl := cmp_lt (l.getD m ([], [])).1 t
    (conv => whnf)
    (repeat (first | (refine Need.mk hix ?_; conv => whnf) | (refine ⟨_, hatR, ?_⟩; conv => whnf) | (refine CallClo.auto find1_k ?_; conv => whnf) | (exact Out.same; conv => whnf) | (exact Out1.same; conv => whnf) | (refine QAnd.mk ?_ ?_; conv => whnf) | (apply QStepH.go; conv => whnf) | (refine Both.lit_true ?_; conv => whnf) | (refine Both.lit_false ?_; conv => whnf) | (apply QStep.go; conv => whnf) | (refine Need.mk ?_ ?_; (focus (first | omega | exact ⟨by omega, by omega⟩ | rfl | exact ⟨rfl, rfl⟩ | exact ⟨rfl, by omega, by omega⟩ | exact ⟨by omega, by omega, by omega⟩ | exact ⟨rfl, Nat.le_of_ble_eq_true rfl⟩ | exact Nat.le_of_ble_eq_true rfl | (refine ⟨rfl, rfl, ?_⟩; simp [isFar, ofV0, CV.up, SV.renL, SV.ren] <;> fail) | (refine ⟨rfl, Nat.le_of_ble_eq_true rfl, ?_⟩; simp [isFar, ofV0, CV.up, SV.renL, SV.ren] <;> fail) | (simp only [List.length_append, List.length_drop, List.length_take, List.length_replicate, List.length_map]; omega) | (simp <;> fail))); conv => whnf) | (refine ⟨_, rfl, ?_⟩; conv => whnf)))
    refine Both.dec (fun hc => ?_) (fun hc => ?_)
    · have hP : lessS (kAt l m) t = true := hcl.symm.trans (decide_eq_true hc)
      have hA : m + 1 ≤ j ∧ j ≤ l.length ∧ (∀ q, q < m + 1 → lessS (kAt l q) t = true) ∧ ∀ q, j ≤ q → q < l.length → lessS (kAt l q) t = false := ⟨by omega, hjl, fun q hq => sort_down hsort (by omega) hml hP, hhi⟩
      have hB : j - (m + 1) < j - i := by omega
      (conv => whnf)
      (repeat (first | (exact Out.same; conv => whnf) | (exact Out1.same; conv => whnf) | (refine QAnd.mk ?_ ?_; conv => whnf) | (apply QStepH.go; conv => whnf) | (refine Both.lit_true ?_; conv => whnf) | (refine Both.lit_false ?_; conv => whnf) | (apply QStep.go; conv => whnf) | (refine Need.mk ?_ ?_; (focus (first | omega | exact ⟨by omega, by omega⟩ | rfl | exact ⟨rfl, rfl⟩ | exact ⟨rfl, by omega, by omega⟩ | exact ⟨by omega, by omega, by omega⟩ | exact ⟨rfl, Nat.le_of_ble_eq_true rfl⟩ | exact Nat.le_of_ble_eq_true rfl | (refine ⟨rfl, rfl, ?_⟩; simp [isFar, ofV0, CV.up, SV.renL, SV.ren] <;> fail) | (refine ⟨rfl, Nat.le_of_ble_eq_true rfl, ?_⟩; simp [isFar, ofV0, CV.up, SV.renL, SV.ren] <;> fail) | (simp only [List.length_append, List.length_drop, List.length_take, List.length_replicate, List.length_map]; omega) | (simp <;> fail))); conv => whnf) | (refine ⟨_, rfl, ?_⟩; conv => whnf)))
      refine ⟨(m + 1, j), hA, hB, Weak.auto ?_⟩
      (repeat' ((conv => whnf); first | exact True.intro | (refine And.intro ?_ ?_)))
      all_goals first | rfl | exact .eq rfl | exact congrArg (SV.int .i64) hm1
    · have hP : lessS (kAt l m) t = false := hcl.symm.trans (decide_eq_false hc)
      have hA : i ≤ m ∧ m ≤ l.length ∧ (∀ q, q < i → lessS (kAt l q) t = true) ∧ ∀ q, m ≤ q → q < l.length → lessS (kAt l q) t = false := ⟨by omega, by omega, hlo, fun q h1 h2 => by
        cases hq : lessS (kAt l q) t with
        | false => rfl
        | true =>
          rw [sort_down hsort h1 h2 hq] at hP
          cases hP⟩
      have hB : m - i < j - i := by omega
      (conv => whnf)
      (repeat (first | (exact Out.same; conv => whnf) | (exact Out1.same; conv => whnf) | (refine QAnd.mk ?_ ?_; conv => whnf) | (apply QStepH.go; conv => whnf) | (refine Both.lit_true ?_; conv => whnf) | (refine Both.lit_false ?_; conv => whnf) | (apply QStep.go; conv => whnf) | (refine Need.mk ?_ ?_; (focus (first | omega | exact ⟨by omega, by omega⟩ | rfl | exact ⟨rfl, rfl⟩ | exact ⟨rfl, by omega, by omega⟩ | exact ⟨by omega, by omega, by omega⟩ | exact ⟨rfl, Nat.le_of_ble_eq_true rfl⟩ | exact Nat.le_of_ble_eq_true rfl | (refine ⟨rfl, rfl, ?_⟩; simp [isFar, ofV0, CV.up, SV.renL, SV.ren] <;> fail) | (refine ⟨rfl, Nat.le_of_ble_eq_true rfl, ?_⟩; simp [isFar, ofV0, CV.up, SV.renL, SV.ren] <;> fail) | (simp only [List.length_append, List.length_drop, List.length_take, List.length_replicate, List.length_map]; omega) | (simp <;> fail))); conv => whnf) | (refine ⟨_, rfl, ?_⟩; conv => whnf)))
      refine ⟨(i, m), hA, hB, Weak.auto ?_⟩
      (repeat' ((conv => whnf); first | exact True.intro | (refine And.intro ?_ ?_)))
      all_goals first | rfl | exact .eq rfl | exact congrArg (SV.int .i64) hmw
  · have hij2 : i = j := by omega
    subst hij2
    have hplace : IsPlace l t i := ⟨hjl, hlo, hhi⟩
    have h := h i hplace
    (conv => whnf)
    (repeat (first | (exact Out.same; conv => whnf) | (exact Out1.same; conv => whnf) | (refine QAnd.mk ?_ ?_; conv => whnf) | (apply QStepH.go; conv => whnf) | (refine Both.lit_true ?_; conv => whnf) | (refine Both.lit_false ?_; conv => whnf) | (apply QStep.go; conv => whnf) | (refine Need.mk ?_ ?_; (focus (first | omega | exact ⟨by omega, by omega⟩ | rfl | exact ⟨rfl, rfl⟩ | exact ⟨rfl, by omega, by omega⟩ | exact ⟨by omega, by omega, by omega⟩ | exact ⟨rfl, Nat.le_of_ble_eq_true rfl⟩ | exact Nat.le_of_ble_eq_true rfl | (refine ⟨rfl, rfl, ?_⟩; simp [isFar, ofV0, CV.up, SV.renL, SV.ren] <;> fail) | (refine ⟨rfl, Nat.le_of_ble_eq_true rfl, ?_⟩; simp [isFar, ofV0, CV.up, SV.renL, SV.ren] <;> fail) | (simp only [List.length_append, List.length_drop, List.length_take, List.length_replicate, List.length_map]; omega) | (simp <;> fail))); conv => whnf) | (refine ⟨_, rfl, ?_⟩; conv => whnf)))
    refine Both.dec (fun hil => ?_) (fun hil => ?_)
    · have hil : i < l.length := by omega
      have hat := flP_at l hil
      have hix : ti38.size = 2 ∧ (0 : Int) ≤ (i : Int) ∧ (i : Int) < ((l.length : Nat) : Int) := ⟨rfl, by omega, by omega⟩
      have hce := cmp_eq (l.getD i ([], [])).1 t
      have hfin : decide (cmpV (l.getD i ([], [])).1 t = 0) = decide (i < l.length ∧ kAt l i = t) := by
        rw [hce]
        exact decide_eq_decide.2 ⟨fun q => ⟨hil, q⟩, fun q => q.2⟩
      (conv => whnf)
      (repeat (first | (refine Need.mk hix ?_; conv => whnf) | (refine ⟨_, hat, ?_⟩; conv => whnf) | (refine CallClo.auto find1_k ?_; conv => whnf) | (exact Out.same; conv => whnf) | (exact Out1.same; conv => whnf) | (refine QAnd.mk ?_ ?_; conv => whnf) | (apply QStepH.go; conv => whnf) | (refine Both.lit_true ?_; conv => whnf) | (refine Both.lit_false ?_; conv => whnf) | (apply QStep.go; conv => whnf) | (refine Need.mk ?_ ?_; (focus (first | omega | exact ⟨by omega, by omega⟩ | rfl | exact ⟨rfl, rfl⟩ | exact ⟨rfl, by omega, by omega⟩ | exact ⟨by omega, by omega, by omega⟩ | exact ⟨rfl, Nat.le_of_ble_eq_true rfl⟩ | exact Nat.le_of_ble_eq_true rfl | (refine ⟨rfl, rfl, ?_⟩; simp [isFar, ofV0, CV.up, SV.renL, SV.ren] <;> fail) | (refine ⟨rfl, Nat.le_of_ble_eq_true rfl, ?_⟩; simp [isFar, ofV0, CV.up, SV.renL, SV.ren] <;> fail) | (simp only [List.length_append, List.length_drop, List.length_take, List.length_replicate, List.length_map]; omega) | (simp <;> fail))); conv => whnf) | (refine ⟨_, rfl, ?_⟩; conv => whnf)))
      refine ⟨_, _, WeakV.drop rfl, ?_⟩
      exact (congrArg (fun b => Q (SV.tuple [SV.int .i64 (i : Int), SV.bool b]) []) hfin).mpr h
    · have hfin : false = decide (i < l.length ∧ kAt l i = t) := (decide_eq_false (fun q => by omega)).symm
      (conv => whnf)
      (repeat (first | (exact Out.same; conv => whnf) | (exact Out1.same; conv => whnf) | (refine QAnd.mk ?_ ?_; conv => whnf) | (apply QStepH.go; conv => whnf) | (refine Both.lit_true ?_; conv => whnf) | (refine Both.lit_false ?_; conv => whnf) | (apply QStep.go; conv => whnf) | (refine Need.mk ?_ ?_; (focus (first | omega | exact ⟨by omega, by omega⟩ | rfl | exact ⟨rfl, rfl⟩ | exact ⟨rfl, by omega, by omega⟩ | exact ⟨by omega, by omega, by omega⟩ | exact ⟨rfl, Nat.le_of_ble_eq_true rfl⟩ | exact Nat.le_of_ble_eq_true rfl | (refine ⟨rfl, rfl, ?_⟩; simp [isFar, ofV0, CV.up, SV.renL, SV.ren] <;> fail) | (refine ⟨rfl, Nat.le_of_ble_eq_true rfl, ?_⟩; simp [isFar, ofV0, CV.up, SV.renL, SV.ren] <;> fail) | (simp only [List.length_append, List.length_drop, List.length_take, List.length_replicate, List.length_map]; omega) | (simp <;> fail))); conv => whnf) | (refine ⟨_, rfl, ?_⟩; conv => whnf)))
      refine ⟨_, _, WeakV.drop rfl, ?_⟩
      exact (congrArg (fun b => Q (SV.tuple [SV.int .i64 (i : Int), SV.bool b]) []) hfin).mpr h
theorem bsf_k : Contract Tryd.prog [] 51 bsfS := ⟨⟨⟨_, rfl, rfl, rfl⟩⟩, bsf_c⟩
def findS : Spec := fun args H Q => match args, H with
  | [.sl 2 n cs f, .str t], [] => ∃ l : List Pr, n = l.length ∧ cs = flP l ∧ l.length ≤ 1000000 ∧ sortB l ∧ ∀ k, IsPlace l t k → Q (.tuple [.int .i64 (k : Int), .bool (decide (k < l.length ∧ kAt l k = t))]) []
  | _, _ => False
theorem find_c : Meets Tryd.prog [] 23 findS := by
  refine meets_of Γok Tryd.func23 rfl ?_
  intro args H Q h
  unfold findS at h
  split at h
  case h_2 => exact h.elim
  rename_i n cs f t
  obtain ⟨l, rfl, rfl, hl, hsort, h⟩ := h
  (refine sx_sound Γok _ ?_; conv => whnf)
  (repeat (first | (exact Out.same; conv => whnf) | (exact Out1.same; conv => whnf) | (refine QAnd.mk ?_ ?_; conv => whnf) | (apply QStepH.go; conv => whnf) | (refine Both.lit_true ?_; conv => whnf) | (refine Both.lit_false ?_; conv => whnf) | (apply QStep.go; conv => whnf) | (refine Need.mk ?_ ?_; (focus (first | omega | exact ⟨by omega, by omega⟩ | rfl | exact ⟨rfl, rfl⟩ | exact ⟨rfl, by omega, by omega⟩ | exact ⟨by omega, by omega, by omega⟩ | exact ⟨rfl, Nat.le_of_ble_eq_true rfl⟩ | exact Nat.le_of_ble_eq_true rfl | (refine ⟨rfl, rfl, ?_⟩; simp [isFar, ofV0, CV.up, SV.renL, SV.ren] <;> fail) | (refine ⟨rfl, Nat.le_of_ble_eq_true rfl, ?_⟩; simp [isFar, ofV0, CV.up, SV.renL, SV.ren] <;> fail) | (simp only [List.length_append, List.length_drop, List.length_take, List.length_replicate, List.length_map]; omega) | (simp <;> fail))); conv => whnf) | (refine ⟨_, rfl, ?_⟩; conv => whnf)))
  refine CallVC.auto bsf_k ⟨l, rfl, rfl, hl, hsort, fun k hk => ?_⟩
  have h := h k hk
  (conv => whnf)
  (repeat (first | (exact Out.same; conv => whnf) | (exact Out1.same; conv => whnf) | (refine QAnd.mk ?_ ?_; conv => whnf) | (apply QStepH.go; conv => whnf) | (refine Both.lit_true ?_; conv => whnf) | (refine Both.lit_false ?_; conv => whnf) | (apply QStep.go; conv => whnf) | (refine Need.mk ?_ ?_; (focus (first | omega | exact ⟨by omega, by omega⟩ | rfl | exact ⟨rfl, rfl⟩ | exact ⟨rfl, by omega, by omega⟩ | exact ⟨by omega, by omega, by omega⟩ | exact ⟨rfl, Nat.le_of_ble_eq_true rfl⟩ | exact Nat.le_of_ble_eq_true rfl | (refine ⟨rfl, rfl, ?_⟩; simp [isFar, ofV0, CV.up, SV.renL, SV.ren] <;> fail) | (refine ⟨rfl, Nat.le_of_ble_eq_true rfl, ?_⟩; simp [isFar, ofV0, CV.up, SV.renL, SV.ren] <;> fail) | (simp only [List.length_append, List.length_drop, List.length_take, List.length_replicate, List.length_map]; omega) | (simp <;> fail))); conv => whnf) | (refine ⟨_, rfl, ?_⟩; conv => whnf)))
  exact ⟨_, _, WeakV.drop rfl, h⟩
theorem find_k : Contract Tryd.prog [] 23 findS := ⟨⟨⟨_, rfl, rfl, rfl⟩⟩, find_c⟩
end Go.LX
end
section
set_option maxRecDepth 100000
set_option maxHeartbeats 1000000
set_option autoImplicit false
set_option linter.unusedVariables false
set_option linter.unusedSimpArgs false
namespace Go.LX
open Go.Proofs Go.RowKit Go.ChangeShapes Go.WideShapes Go.ChangeAt
section
variable {H : Type} {enc : TypeId × Value → H} {W : World}
theorem open_str1 {n : Nat} {cs : List Value} {y : DataW H × List MemPlace} (h : DataW.trod enc Tryd.prog W 0 (fun _ => true) true n 9 cs = some y) (hw : InReach Tryd.prog 9 y.1) : ∃ r : List UInt8, CRs (E0 W).I W [.str r] cs ∧ r.length ≤ reachBytes := by
  obtain ⟨s, hs, _, _⟩ := DataW.trod_string Tryd.underlying9 h
  subst hs
  obtain ⟨l, hl, hb⟩ := leaf_str Tryd.underlying9 h hw
  rw [hl]
  refine ⟨l, ⟨rfl, fun j x v hx hv => ?_⟩, hb⟩
  match j with
  | 0 => cases hx; cases hv; exact .str _
  | j + 1 => simp at hx
theorem flat_strs (l : List (List UInt8)) : (l.flatMap fun s => [CV.str s]) = l.map CV.str := by
  induction l with
  | nil => rfl
  | cons a r ih => rw [List.flatMap_cons, ih]; rfl
end
end Go.LX
end
section
set_option maxRecDepth 100000
set_option maxHeartbeats 1000000
set_option autoImplicit false
set_option linter.unusedVariables false
set_option linter.unusedSimpArgs false
namespace Go.LX
open Go.Proofs Go.RowKit Go.ChangeShapes Go.WideShapes Go.ChangeAt
section
variable {H : Type} {enc : TypeId × Value → H} {W : World}
theorem cells_str : Tryd.prog.cellsOf 9 = 1 := by kernel_rfl
theorem cells_pair : Tryd.prog.cellsOf 38 = 2 := by kernel_rfl
theorem len2 {α : Type} {l : List α} (h : l.length = 2) : ∃ a b, l = [a, b] := by
  match l, h with
  | [a, b], _ => exact ⟨a, b, rfl⟩
theorem crs2 {I : Nat → Prop} {a b : CV} {u v : Value} (h1 : CR I W a u) (h2 : CR I W b v) : CRs I W [a, b] [u, v] := ⟨rfl, fun j x y hx hy => by
  match j with
  | 0 => cases hx; cases hy; exact h1
  | 1 => cases hx; cases hy; exact h2
  | j + 2 => simp at hx⟩
theorem open_pair1 {n : Nat} {cs : List Value} {y : DataW H × List MemPlace} (h : DataW.trod enc Tryd.prog W 0 (fun _ => true) true n 38 cs = some y) (hw : InReach Tryd.prog 38 y.1) :
    ∃ p : Pr, CRs (E0 W).I W (enP p) cs ∧ p.1.length ≤ reachBytes ∧ p.2.length ≤ reachBytes := by
  obtain ⟨hl, hf⟩ := open_fields2 (t := 38) Tryd.underlying38 h hw
  rw [cells_pair] at hl
  obtain ⟨c0, c1, rfl⟩ := len2 hl
  obtain ⟨n0, y0, t0, q0⟩ := hf 0 _ rfl
  obtain ⟨n1, y1, t1, q1⟩ := hf 1 _ rfl
  replace t0 : DataW.trod enc Tryd.prog W 0 (fun _ => true) true n0 9 (List.take (Tryd.prog.cellsOf 9) (List.drop 0 [c0, c1])) = some y0 := t0
  replace t1 : DataW.trod enc Tryd.prog W 0 (fun _ => true) true n1 9 (List.take (Tryd.prog.cellsOf 9) (List.drop 1 [c0, c1])) = some y1 := t1
  rw [cells_str] at t0 t1
  obtain ⟨s0, rfl, w0⟩ := leaf_str Tryd.underlying9 t0 q0
  obtain ⟨s1, rfl, w1⟩ := leaf_str Tryd.underlying9 t1 q1
  exact ⟨(s0, s1), crs2 (.str _) (.str _), w0, w1⟩
structure LeafA where
  i : Int
  c : Int
  k : Bs
  v : Bs
  p : List Bs
structure LeafA.ok (a : LeafA) : Prop where
  i : -9223372036854775808 ≤ a.i ∧ a.i ≤ 9223372036854775807
  c : -9223372036854775808 ≤ a.c ∧ a.c ≤ 9223372036854775807
  p : a.p.length ≤ 9223372036854775807
end
end Go.LX
end
section
set_option maxRecDepth 100000
set_option maxHeartbeats 2000000
set_option autoImplicit false
set_option linter.unusedVariables false
set_option linter.unusedSimpArgs false
namespace Go.LX
open Go.Proofs

def textsS : Spec := fun args H Q => match args, H with
  | [.sl 1 n cs f, .sl 1 n' cs' f'], [] => ∃ p : List Bs, cs = strs p ∧ cs' = strs p ∧ n = p.length ∧ n' = p.length ∧ p.length ≤ 9223372036854775807 ∧ Q (.bool true) []
  | _, _ => False
theorem texts_c : Meets Tryd.prog [] 27 textsS := by
  refine meets_of Γok Tryd.func27 rfl ?_
  intro args H Q h
  unfold textsS at h
  split at h
  case h_2 => exact h.elim
  rename_i n cs f n' cs' f'
  obtain ⟨p, rfl, rfl, rfl, rfl, hp, h⟩ := h
  have hq : (!decide (((p.length : Nat) : Int) = ((p.length : Nat) : Int))) = false := by simp
  (refine sx_sound Γok _ ?_; conv => whnf)
  (repeat (first | (refine Both.of_false hq ?_; conv => whnf) | (exact Out.same; conv => whnf) | (exact Out1.same; conv => whnf) | (refine QAnd.mk ?_ ?_; conv => whnf) | (apply QStepH.go; conv => whnf) | (refine Both.lit_true ?_; conv => whnf) | (refine Both.lit_false ?_; conv => whnf) | (apply QStep.go; conv => whnf) | (refine Need.mk ?_ ?_; (focus (first | omega | exact ⟨by omega, by omega⟩ | rfl | exact ⟨rfl, rfl⟩ | exact ⟨rfl, by omega, by omega⟩ | exact ⟨by omega, by omega, by omega⟩ | exact ⟨rfl, Nat.le_of_ble_eq_true rfl⟩ | exact Nat.le_of_ble_eq_true rfl | (refine ⟨rfl, rfl, ?_⟩; simp [isFar, ofV0, CV.up, SV.renL, SV.ren] <;> fail) | (refine ⟨rfl, Nat.le_of_ble_eq_true rfl, ?_⟩; simp [isFar, ofV0, CV.up, SV.renL, SV.ren] <;> fail) | (simp only [List.length_append, List.length_drop, List.length_take, List.length_replicate, List.length_map]; omega) | (simp <;> fail))); conv => whnf) | (refine ⟨_, rfl, ?_⟩; conv => whnf)))
  refine loop_rule (fun k : Nat => ⟨[.sl 1 p.length (strs p) f, .sl 1 p.length (strs p) f', .any, .any, .any, .int .i64 (k : Int), .any, .any, .any, .any, .any, .any, .any, .any, .any, .any, .any, .any, .any, .any, .any, .any, .any, .any, .any, .any], []⟩) (fun k => k ≤ p.length) (fun k => p.length - k) 0 (Nat.zero_le _) (Weak.auto ?_) ?_
  · (repeat' ((conv => whnf); first | exact True.intro | (refine And.intro ?_ ?_)))
    all_goals first | rfl | exact .eq rfl
  intro k hk
  (refine sx_sound Γok _ ?_; conv => whnf)
  (repeat (first | (exact Out.same; conv => whnf) | (exact Out1.same; conv => whnf) | (refine QAnd.mk ?_ ?_; conv => whnf) | (apply QStepH.go; conv => whnf) | (refine Both.lit_true ?_; conv => whnf) | (refine Both.lit_false ?_; conv => whnf) | (apply QStep.go; conv => whnf) | (refine Need.mk ?_ ?_; (focus (first | omega | exact ⟨by omega, by omega⟩ | rfl | exact ⟨rfl, rfl⟩ | exact ⟨rfl, by omega, by omega⟩ | exact ⟨by omega, by omega, by omega⟩ | exact ⟨rfl, Nat.le_of_ble_eq_true rfl⟩ | exact Nat.le_of_ble_eq_true rfl | (refine ⟨rfl, rfl, ?_⟩; simp [isFar, ofV0, CV.up, SV.renL, SV.ren] <;> fail) | (refine ⟨rfl, Nat.le_of_ble_eq_true rfl, ?_⟩; simp [isFar, ofV0, CV.up, SV.renL, SV.ren] <;> fail) | (simp only [List.length_append, List.length_drop, List.length_take, List.length_replicate, List.length_map]; omega) | (simp <;> fail))); conv => whnf) | (refine ⟨_, rfl, ?_⟩; conv => whnf)))
  refine Both.dec (fun hlt => ?_) (fun hge => ?_)
  · have hkl : k < p.length := by omega
    have hat := strs_at p hkl
    have hwr : IntKind.i64.wrap ((k : Int) + 1) = ((k + 1 : Nat) : Int) := by rw [wrap_i64 (by omega) (by omega)]; rfl
    have hq2 : (!decide (p.getD k [] = p.getD k [])) = false := by simp
    (conv => whnf)
    (refine DrawVC.any Γok (by kernel_rfl) (by kernel_rfl) (by kernel_rfl) (by rfl) ?_; conv => whnf)
    (repeat (first | (refine ⟨_, hat, ?_⟩; conv => whnf) | (refine Both.of_false hq2 ?_; conv => whnf) | (exact Out.same; conv => whnf) | (exact Out1.same; conv => whnf) | (refine QAnd.mk ?_ ?_; conv => whnf) | (apply QStepH.go; conv => whnf) | (refine Both.lit_true ?_; conv => whnf) | (refine Both.lit_false ?_; conv => whnf) | (apply QStep.go; conv => whnf) | (refine Need.mk ?_ ?_; (focus (first | omega | exact ⟨by omega, by omega⟩ | rfl | exact ⟨rfl, rfl⟩ | exact ⟨rfl, by omega, by omega⟩ | exact ⟨by omega, by omega, by omega⟩ | exact ⟨rfl, Nat.le_of_ble_eq_true rfl⟩ | exact Nat.le_of_ble_eq_true rfl | (refine ⟨rfl, rfl, ?_⟩; simp [isFar, ofV0, CV.up, SV.renL, SV.ren] <;> fail) | (refine ⟨rfl, Nat.le_of_ble_eq_true rfl, ?_⟩; simp [isFar, ofV0, CV.up, SV.renL, SV.ren] <;> fail) | (simp only [List.length_append, List.length_drop, List.length_take, List.length_replicate, List.length_map]; omega) | (simp <;> fail))); conv => whnf) | (refine ⟨_, rfl, ?_⟩; conv => whnf)))
    refine ⟨k + 1, by omega, by omega, Weak.auto ?_⟩
    (repeat' ((conv => whnf); first | exact True.intro | (refine And.intro ?_ ?_)))
    all_goals first | rfl | exact .eq rfl | exact congrArg (SV.int .i64) hwr
  (conv => whnf)
  (repeat (first | (exact Out.same; conv => whnf) | (exact Out1.same; conv => whnf) | (refine QAnd.mk ?_ ?_; conv => whnf) | (apply QStepH.go; conv => whnf) | (refine Both.lit_true ?_; conv => whnf) | (refine Both.lit_false ?_; conv => whnf) | (apply QStep.go; conv => whnf) | (refine Need.mk ?_ ?_; (focus (first | omega | exact ⟨by omega, by omega⟩ | rfl | exact ⟨rfl, rfl⟩ | exact ⟨rfl, by omega, by omega⟩ | exact ⟨by omega, by omega, by omega⟩ | exact ⟨rfl, Nat.le_of_ble_eq_true rfl⟩ | exact Nat.le_of_ble_eq_true rfl | (refine ⟨rfl, rfl, ?_⟩; simp [isFar, ofV0, CV.up, SV.renL, SV.ren] <;> fail) | (refine ⟨rfl, Nat.le_of_ble_eq_true rfl, ?_⟩; simp [isFar, ofV0, CV.up, SV.renL, SV.ren] <;> fail) | (simp only [List.length_append, List.length_drop, List.length_take, List.length_replicate, List.length_map]; omega) | (simp <;> fail))); conv => whnf) | (refine ⟨_, rfl, ?_⟩; conv => whnf)))
  exact ⟨_, _, WeakV.drop rfl, h⟩
theorem texts_k : Contract Tryd.prog [] 27 textsS := ⟨⟨⟨_, rfl, rfl, rfl⟩⟩, texts_c⟩
end Go.LX
end
section
set_option maxRecDepth 100000
set_option maxHeartbeats 2000000
set_option autoImplicit false
set_option linter.unusedVariables false
set_option linter.unusedSimpArgs false
namespace Go.LX
open Go.Proofs

end Go.LX
end
section
set_option maxRecDepth 100000
set_option maxHeartbeats 2000000
set_option autoImplicit false
set_option linter.unusedVariables false
set_option linter.unusedSimpArgs false
namespace Go.LX
open Go.Proofs

structure Lf where
  i : Int
  c : Int
  k : Bs
  v : Bs
  p : List Bs
def enL (x : Lf) : List CV := [.int .i64 x.i, .int .i64 x.c, .str x.k, .str x.v, .sl 1 x.p.length (strs x.p) false]
def flL (l : List Lf) : List CV := l.flatMap enL
def lfSV (x : Lf) : SV := .agg [.int .i64 x.i, .int .i64 x.c, .str x.k, .str x.v, .sl 1 x.p.length (strs x.p) false]
def prSV (a : Bool) (L : List Lf) : SV := .agg [.bool a, .sl 5 L.length (flL L) false]
theorem flL_app (l m : List Lf) : flL (l ++ m) = flL l ++ flL m := by rw [flL, List.flatMap_append]; rfl
theorem flL_one (x : Lf) : flL [x] = enL x := by rw [flL, List.flatMap_cons]; exact List.append_nil _
def madeL (l : List Pr) (k : Nat) : Lf := ⟨(k : Int), (l.length : Int), (l.getD k ([], [])).1, (l.getD k ([], [])).2, pathP l k⟩
def absV (l : List Pr) (t : Bs) (k : Nat) : Bool × List Lf × Int :=
  if t.length < 1 ∨ 16 < t.length then (false, [], 1) else if k < l.length ∧ kAt l k = t then (false, [], 4) else
    (true, (if 0 < k then [madeL l (k - 1)] else []) ++ (if k < l.length then [madeL l k] else []), 0)
theorem WeakV.val {G : Gl} {N : Nat} {r r' : SV} {H : List LObj} (h : ∀ E w v, VR E w r v → VR E w r' v) : WeakV G N r H r' H := fun A E w v hA hle hv hr hg => ⟨E, hle, h E w v hv, hr, hg, Step.refl E H w⟩
theorem vr_nil2 {E : Env} {w : World} {a : Bool} {x : SV} {v : Value} (sz : Nat) (h : VR E w (.tuple [.agg [.bool a, .nilsl], x]) v) : VR E w (.tuple [.agg [.bool a, .sl sz 0 [] false], x]) v := by
  cases h with
  | tuple vs hl h =>
    refine .tuple vs hl (fun j y v hx hv => ?_)
    match j with
    | 0 =>
      cases hx
      have h0 := h 0 _ v rfl hv
      cases h0 with
      | agg ws hw g =>
        refine .agg ws hw (fun i y u hy hu => ?_)
        match i with
        | 0 => cases hy; exact g 0 _ u rfl hu
        | 1 => cases hy; exact (g 1 _ u rfl hu).nilSl sz false
        | i + 2 => simp at hy
    | 1 => cases hx; exact h 1 _ v rfl hv
    | j + 2 => simp at hx
def mpathPS : Spec := fun args H Q => match args, H with
  | [.sl 2 n cs f, .int .i64 x], [] => ∃ l : List Pr, n = l.length ∧ cs = flP l ∧ l.length < 60000 ∧ (∀ p ∈ l, okP p) ∧ Q (.sl 1 (pathO l x).length (strs (pathO l x)) false) []
  | _, _ => False
theorem mpathP_k {y0 : CV} {cs0 : List CV} (hK : KAt y0 cs0) : Contract Tryd.prog [(0, y0 :: cs0)] 54 mpathPS := (mpath_k hK).post fun args H Q h => by
  unfold mpathPS at h
  split at h
  case h_2 => exact h.elim
  rename_i n cs f x
  obtain ⟨l, rfl, rfl, h60, hok, h⟩ := h
  exact ⟨l, rfl, rfl, h60, hok, _, _, (WeakV.of (Weak.pubT (e := 9) (sz := 1) (n := (pathO l x).length) (xs := strs (pathO l x)) (wr := true) 0 rfl)).trans (WeakV.drop rfl), h⟩
def kInts (at' : List Nat) : List CV := at'.map fun (k : Nat) => CV.int .i64 (k : Int)
def leavesS : Spec := fun args H Q => match args, H with
  | [.sl 2 n cs f, .sl 1 m ks f'], [] => ∃ (l : List Pr) (at' : List Nat), n = l.length ∧ cs = flP l ∧ l.length < 60000 ∧ (∀ p ∈ l, okP p) ∧ ks = kInts at' ∧ m = at'.length ∧ at'.length ≤ 1000 ∧ (∀ k ∈ at', k < l.length) ∧
      Q (.sl 5 (at'.map (madeL l)).length (flL (at'.map (madeL l))) false) []
  | _, _ => False
theorem leaves_c {y0 : CV} {cs0 : List CV} (hK : KAt y0 cs0) : Meets Tryd.prog [(0, y0 :: cs0)] 24 leavesS := by
  refine meets_of Γok Tryd.func24 rfl ?_
  intro args H Q h
  unfold leavesS at h
  split at h
  case h_2 => exact h.elim
  rename_i n cs f m ks f'
  obtain ⟨l, at', rfl, rfl, h60, hok, rfl, rfl, ha, hall, h⟩ := h
  (refine sx_sound Γok _ ?_; conv => whnf)
  (repeat (first | (exact Out.same; conv => whnf) | (exact Out1.same; conv => whnf) | (refine QAnd.mk ?_ ?_; conv => whnf) | (apply QStepH.go; conv => whnf) | (refine Both.lit_true ?_; conv => whnf) | (refine Both.lit_false ?_; conv => whnf) | (apply QStep.go; conv => whnf) | (refine Need.mk ?_ ?_; (focus (first | omega | exact ⟨by omega, by omega⟩ | rfl | exact ⟨rfl, rfl⟩ | exact ⟨rfl, by omega, by omega⟩ | exact ⟨by omega, by omega, by omega⟩ | exact ⟨rfl, Nat.le_of_ble_eq_true rfl⟩ | exact Nat.le_of_ble_eq_true rfl | (refine ⟨rfl, rfl, ?_⟩; simp [isFar, ofV0, CV.up, SV.renL, SV.ren] <;> fail) | (refine ⟨rfl, Nat.le_of_ble_eq_true rfl, ?_⟩; simp [isFar, ofV0, CV.up, SV.renL, SV.ren] <;> fail) | (simp only [List.length_append, List.length_drop, List.length_take, List.length_replicate, List.length_map]; omega) | (simp <;> fail))); conv => whnf) | (refine ⟨_, rfl, ?_⟩; conv => whnf)))
  refine loop_rule (fun k : Nat => ⟨[.sl 2 l.length (flP l) f, .any, .any, .any, .any, .own 0, .any, .any, .sl 1 at'.length (kInts at') f', .int .i64 ((at'.length : Nat) : Int), .int .i64 (k : Int), .any, .any, .any, .any, .any, .any, .any, .any, .any, .any, .any, .any, .any, .any, .any, .any, .any, .any, .any], [.own 41 5 ((at'.take k).map (madeL l)).length (flL ((at'.take k).map (madeL l))) true]⟩) (fun k => k ≤ at'.length) (fun k => at'.length - k) 0 (Nat.zero_le _) ((Weak.ownNilT 5 41 5 rfl).trans (Weak.auto ?_)) ?_
  · (repeat' ((conv => whnf); first | exact True.intro | (refine And.intro ?_ ?_)))
    all_goals first | rfl | exact .eq rfl
  intro k hk
  have htl : ((at'.take k).map (madeL l)).length = k := by rw [List.length_map, List.length_take]; omega
  (refine sx_sound Γok _ ?_; conv => whnf)
  (repeat (first | (exact Out.same; conv => whnf) | (exact Out1.same; conv => whnf) | (refine QAnd.mk ?_ ?_; conv => whnf) | (apply QStepH.go; conv => whnf) | (refine Both.lit_true ?_; conv => whnf) | (refine Both.lit_false ?_; conv => whnf) | (apply QStep.go; conv => whnf) | (refine Need.mk ?_ ?_; (focus (first | omega | exact ⟨by omega, by omega⟩ | rfl | exact ⟨rfl, rfl⟩ | exact ⟨rfl, by omega, by omega⟩ | exact ⟨by omega, by omega, by omega⟩ | exact ⟨rfl, Nat.le_of_ble_eq_true rfl⟩ | exact Nat.le_of_ble_eq_true rfl | (refine ⟨rfl, rfl, ?_⟩; simp [isFar, ofV0, CV.up, SV.renL, SV.ren] <;> fail) | (refine ⟨rfl, Nat.le_of_ble_eq_true rfl, ?_⟩; simp [isFar, ofV0, CV.up, SV.renL, SV.ren] <;> fail) | (simp only [List.length_append, List.length_drop, List.length_take, List.length_replicate, List.length_map]; omega) | (simp <;> fail))); conv => whnf) | (refine ⟨_, rfl, ?_⟩; conv => whnf)))
  refine Both.dec (fun hlt => ?_) (fun hge => ?_)
  · have hkl : k < at'.length := by omega
    obtain ⟨x, hx⟩ : ∃ x, at'.getD k 0 = x := ⟨_, rfl⟩
    have hxg : at'[k] = x := by rw [← hx, List.getD_eq_getElem?_getD, List.getElem?_eq_getElem hkl]; rfl
    have hxl : x < l.length := hall x (by rw [← hxg]; exact List.getElem_mem hkl)
    have hat : (kInts at')[((k : Nat) : Int).toNat]? = some (CV.int .i64 (x : Int)) := by
      unfold kInts
      rw [Int.toNat_natCast, List.getElem?_map, List.getElem?_eq_getElem hkl, hxg]
      rfl
    have hat2 := flP_at l hxl
    have hix : ti38.size = 2 ∧ (0 : Int) ≤ (x : Int) ∧ (x : Int) < ((l.length : Nat) : Int) := ⟨rfl, by omega, by omega⟩
    have hk1 : IntKind.i64.wrap ((k : Int) + 1) = ((k + 1 : Nat) : Int) := by rw [wrap_i64 (by omega) (by omega)]; rfl
    have hpo : pathO l (x : Int) = pathP l x := by
      unfold pathO
      rw [if_neg (by omega), Int.toNat_natCast]
    have hcap : (((at'.take k).map (madeL l)).length + 1) * ti41.bytes ≤ 140737488355328 := by
      rw [htl]
      show (k + 1) * 72 ≤ _
      omega
    have hnext : (at'.take (k + 1)).map (madeL l) = (at'.take k).map (madeL l) ++ [madeL l x] := by rw [List.take_succ_eq_append_getElem hkl, List.map_append, hxg]; rfl
    have end1 : LObj.own 41 5 (((at'.take k).map (madeL l)).length + 1) (flL ((at'.take k).map (madeL l)) ++ [.int .i64 (x : Int), .int .i64 ((l.length : Nat) : Int), .str (l.getD x ([], [])).1, .str (l.getD x ([], [])).2, .sl 1 (pathO l (x : Int)).length (strs (pathO l (x : Int))) false]) true = LObj.own 41 5 ((at'.take (k + 1)).map (madeL l)).length (flL ((at'.take (k + 1)).map (madeL l))) true := by
      rw [hpo, hnext, flL_app, flL_one, List.length_append]
      rfl
    (conv => whnf)
    (repeat (first | (refine ⟨_, hat, ?_⟩; conv => whnf) | (exact Out.same; conv => whnf) | (exact Out1.same; conv => whnf) | (refine QAnd.mk ?_ ?_; conv => whnf) | (apply QStepH.go; conv => whnf) | (refine Both.lit_true ?_; conv => whnf) | (refine Both.lit_false ?_; conv => whnf) | (apply QStep.go; conv => whnf) | (refine Need.mk ?_ ?_; (focus (first | omega | exact ⟨by omega, by omega⟩ | rfl | exact ⟨rfl, rfl⟩ | exact ⟨rfl, by omega, by omega⟩ | exact ⟨by omega, by omega, by omega⟩ | exact ⟨rfl, Nat.le_of_ble_eq_true rfl⟩ | exact Nat.le_of_ble_eq_true rfl | (refine ⟨rfl, rfl, ?_⟩; simp [isFar, ofV0, CV.up, SV.renL, SV.ren] <;> fail) | (refine ⟨rfl, Nat.le_of_ble_eq_true rfl, ?_⟩; simp [isFar, ofV0, CV.up, SV.renL, SV.ren] <;> fail) | (simp only [List.length_append, List.length_drop, List.length_take, List.length_replicate, List.length_map]; omega) | (simp <;> fail))); conv => whnf) | (refine ⟨_, rfl, ?_⟩; conv => whnf)))
    (refine DrawVC.any Γok (by kernel_rfl) (by kernel_rfl) (by kernel_rfl) (by rfl) ?_; conv => whnf)
    (repeat (first | (refine Need.mk hix ?_; conv => whnf) | (refine ⟨_, hat2, ?_⟩; conv => whnf) | (refine CallVC.auto (mpathP_k hK) ⟨l, rfl, rfl, h60, hok, ?_⟩; conv => whnf) | (refine Need.mk hcap ?_; conv => whnf) | (exact Out.same; conv => whnf) | (exact Out1.same; conv => whnf) | (refine QAnd.mk ?_ ?_; conv => whnf) | (apply QStepH.go; conv => whnf) | (refine Both.lit_true ?_; conv => whnf) | (refine Both.lit_false ?_; conv => whnf) | (apply QStep.go; conv => whnf) | (refine Need.mk ?_ ?_; (focus (first | omega | exact ⟨by omega, by omega⟩ | rfl | exact ⟨rfl, rfl⟩ | exact ⟨rfl, by omega, by omega⟩ | exact ⟨by omega, by omega, by omega⟩ | exact ⟨rfl, Nat.le_of_ble_eq_true rfl⟩ | exact Nat.le_of_ble_eq_true rfl | (refine ⟨rfl, rfl, ?_⟩; simp [isFar, ofV0, CV.up, SV.renL, SV.ren] <;> fail) | (refine ⟨rfl, Nat.le_of_ble_eq_true rfl, ?_⟩; simp [isFar, ofV0, CV.up, SV.renL, SV.ren] <;> fail) | (simp only [List.length_append, List.length_drop, List.length_take, List.length_replicate, List.length_map]; omega) | (simp <;> fail))); conv => whnf) | (refine ⟨_, rfl, ?_⟩; conv => whnf)))
    refine ⟨k + 1, by omega, by omega, Weak.auto ?_⟩
    (repeat' ((conv => whnf); first | exact True.intro | (refine And.intro ?_ ?_)))
    all_goals first | rfl | exact .eq rfl | exact congrArg (SV.int .i64) hk1 | exact end1
  · have hke : k = at'.length := by omega
    have hfin : at'.take k = at' := List.take_of_length_le (by omega)
    rw [← hfin] at h
    (conv => whnf)
    (repeat (first | (exact Out.same; conv => whnf) | (exact Out1.same; conv => whnf) | (refine QAnd.mk ?_ ?_; conv => whnf) | (apply QStepH.go; conv => whnf) | (refine Both.lit_true ?_; conv => whnf) | (refine Both.lit_false ?_; conv => whnf) | (apply QStep.go; conv => whnf) | (refine Need.mk ?_ ?_; (focus (first | omega | exact ⟨by omega, by omega⟩ | rfl | exact ⟨rfl, rfl⟩ | exact ⟨rfl, by omega, by omega⟩ | exact ⟨by omega, by omega, by omega⟩ | exact ⟨rfl, Nat.le_of_ble_eq_true rfl⟩ | exact Nat.le_of_ble_eq_true rfl | (refine ⟨rfl, rfl, ?_⟩; simp [isFar, ofV0, CV.up, SV.renL, SV.ren] <;> fail) | (refine ⟨rfl, Nat.le_of_ble_eq_true rfl, ?_⟩; simp [isFar, ofV0, CV.up, SV.renL, SV.ren] <;> fail) | (simp only [List.length_append, List.length_drop, List.length_take, List.length_replicate, List.length_map]; omega) | (simp <;> fail))); conv => whnf) | (refine ⟨_, rfl, ?_⟩; conv => whnf)))
    refine ⟨_, _, WeakV.of ((Weak.pubT (e := 41) (sz := 5) (n := ((at'.take k).map (madeL l)).length) (xs := flL ((at'.take k).map (madeL l))) (wr := true) 0 rfl).trans (Weak.auto ?_)), h⟩
    (repeat' ((conv => whnf); first | exact True.intro | (refine And.intro ?_ ?_)))
    all_goals first | rfl | exact .eq rfl
theorem leaves_k {y0 : CV} {cs0 : List CV} (hK : KAt y0 cs0) : Contract Tryd.prog [(0, y0 :: cs0)] 24 leavesS := ⟨⟨⟨_, rfl, rfl, rfl⟩⟩, leaves_c hK⟩
end Go.LX
end
section
set_option maxRecDepth 100000
set_option maxHeartbeats 2000000
set_option autoImplicit false
set_option linter.unusedVariables false
set_option linter.unusedSimpArgs false
namespace Go.LX
open Go.Proofs

theorem place_ex {l : List Pr} (hs : sortB l) (t : Bs) : ∃ k, IsPlace l t k := by
  have key : ∀ n, n ≤ l.length → ∃ c, c ≤ n ∧ (∀ q, q < c → lessS (kAt l q) t = true) ∧ (c < n → lessS (kAt l c) t = false) := by
    intro n
    induction n with
    | zero => exact fun _ => ⟨0, Nat.le_refl _, fun q h => absurd h (by omega), fun h => absurd h (by omega)⟩
    | succ n ih =>
      intro hn
      obtain ⟨c, h1, h2, h3⟩ := ih (by omega)
      rcases Nat.lt_or_ge c n with q | q
      · exact ⟨c, by omega, h2, fun _ => h3 q⟩
      · cases hP : lessS (kAt l n) t with
        | true => exact ⟨n + 1, Nat.le_refl _, fun j hj => sort_down hs (by omega) (by omega) hP, fun u => absurd u (by omega)⟩
        | false => exact ⟨c, by omega, h2, fun _ => by rw [show c = n by omega]; exact hP⟩
  obtain ⟨c, h1, h2, h3⟩ := key l.length (Nat.le_refl _)
  exact ⟨c, h1, h2, fun j q1 q2 => by
    cases hq : lessS (kAt l j) t with
    | false => rfl
    | true =>
      have := h3 (by omega)
      rw [sort_down hs q1 q2 hq] at this
      cases this⟩
def absS : Spec := fun args H Q => match args, H with
  | [.sl 2 n cs f, .str t], [] => ∃ l : List Pr, n = l.length ∧ cs = flP l ∧ l.length < 60000 ∧ (∀ p ∈ l, okP p) ∧ sortB l ∧ ∀ k a L e, IsPlace l t k → (a, L, e) = absV l t k → Q (.tuple [prSV a L, .int .i64 e]) []
  | _, _ => False
theorem abs_bad {l : List Pr} {t : Bs} {k : Nat} (h : t.length < 1 ∨ 16 < t.length) : absV l t k = (false, [], 1) := if_pos h
theorem abs_found {l : List Pr} {t : Bs} {k : Nat} (h : ¬ (t.length < 1 ∨ 16 < t.length)) (h2 : k < l.length ∧ kAt l k = t) : absV l t k = (false, [], 4) := by unfold absV; rw [if_neg h, if_pos h2]
theorem abs_yes {l : List Pr} {t : Bs} {k : Nat} (h : ¬ (t.length < 1 ∨ 16 < t.length)) (h2 : ¬ (k < l.length ∧ kAt l k = t)) : absV l t k = (true, (if 0 < k then [madeL l (k - 1)] else []) ++ (if k < l.length then [madeL l k] else []), 0) := by unfold absV; rw [if_neg h, if_neg h2]
theorem mabs_c {y0 : CV} {cs0 : List CV} (hK : KAt y0 cs0) : Meets Tryd.prog [(0, y0 :: cs0)] 11 absS := by
  refine meets_of Γok Tryd.func11 rfl ?_
  intro args H Q h
  unfold absS at h
  split at h
  case h_2 => exact h.elim
  rename_i n cs f t
  obtain ⟨l, rfl, rfl, h60, hok, hsort, h⟩ := h
  obtain ⟨k0, hk0⟩ := place_ex hsort t
  (refine sx_sound Γok _ ?_; conv => whnf)
  (repeat (first | (exact Out.same; conv => whnf) | (exact Out1.same; conv => whnf) | (refine QAnd.mk ?_ ?_; conv => whnf) | (apply QStepH.go; conv => whnf) | (refine Both.lit_true ?_; conv => whnf) | (refine Both.lit_false ?_; conv => whnf) | (apply QStep.go; conv => whnf) | (refine Need.mk ?_ ?_; (focus (first | omega | exact ⟨by omega, by omega⟩ | rfl | exact ⟨rfl, rfl⟩ | exact ⟨rfl, by omega, by omega⟩ | exact ⟨by omega, by omega, by omega⟩ | exact ⟨rfl, Nat.le_of_ble_eq_true rfl⟩ | exact Nat.le_of_ble_eq_true rfl | (refine ⟨rfl, rfl, ?_⟩; simp [isFar, ofV0, CV.up, SV.renL, SV.ren] <;> fail) | (refine ⟨rfl, Nat.le_of_ble_eq_true rfl, ?_⟩; simp [isFar, ofV0, CV.up, SV.renL, SV.ren] <;> fail) | (simp only [List.length_append, List.length_drop, List.length_take, List.length_replicate, List.length_map]; omega) | (simp <;> fail))); conv => whnf) | (refine ⟨_, rfl, ?_⟩; conv => whnf)))
  refine Both.dec (fun h1 => ?_) (fun h1 => ?_)
  · have h := h k0 _ _ _ hk0 (abs_bad (.inl (by omega))).symm
    (conv => whnf)
    (repeat (first | (exact Out.same; conv => whnf) | (exact Out1.same; conv => whnf) | (refine QAnd.mk ?_ ?_; conv => whnf) | (apply QStepH.go; conv => whnf) | (refine Both.lit_true ?_; conv => whnf) | (refine Both.lit_false ?_; conv => whnf) | (apply QStep.go; conv => whnf) | (refine Need.mk ?_ ?_; (focus (first | omega | exact ⟨by omega, by omega⟩ | rfl | exact ⟨rfl, rfl⟩ | exact ⟨rfl, by omega, by omega⟩ | exact ⟨by omega, by omega, by omega⟩ | exact ⟨rfl, Nat.le_of_ble_eq_true rfl⟩ | exact Nat.le_of_ble_eq_true rfl | (refine ⟨rfl, rfl, ?_⟩; simp [isFar, ofV0, CV.up, SV.renL, SV.ren] <;> fail) | (refine ⟨rfl, Nat.le_of_ble_eq_true rfl, ?_⟩; simp [isFar, ofV0, CV.up, SV.renL, SV.ren] <;> fail) | (simp only [List.length_append, List.length_drop, List.length_take, List.length_replicate, List.length_map]; omega) | (simp <;> fail))); conv => whnf) | (refine ⟨_, rfl, ?_⟩; conv => whnf)))
    exact ⟨_, _, (WeakV.drop rfl).trans (WeakV.val fun E w v => vr_nil2 5), h⟩
  (conv => whnf)
  (repeat (first | (exact Out.same; conv => whnf) | (exact Out1.same; conv => whnf) | (refine QAnd.mk ?_ ?_; conv => whnf) | (apply QStepH.go; conv => whnf) | (refine Both.lit_true ?_; conv => whnf) | (refine Both.lit_false ?_; conv => whnf) | (apply QStep.go; conv => whnf) | (refine Need.mk ?_ ?_; (focus (first | omega | exact ⟨by omega, by omega⟩ | rfl | exact ⟨rfl, rfl⟩ | exact ⟨rfl, by omega, by omega⟩ | exact ⟨by omega, by omega, by omega⟩ | exact ⟨rfl, Nat.le_of_ble_eq_true rfl⟩ | exact Nat.le_of_ble_eq_true rfl | (refine ⟨rfl, rfl, ?_⟩; simp [isFar, ofV0, CV.up, SV.renL, SV.ren] <;> fail) | (refine ⟨rfl, Nat.le_of_ble_eq_true rfl, ?_⟩; simp [isFar, ofV0, CV.up, SV.renL, SV.ren] <;> fail) | (simp only [List.length_append, List.length_drop, List.length_take, List.length_replicate, List.length_map]; omega) | (simp <;> fail))); conv => whnf) | (refine ⟨_, rfl, ?_⟩; conv => whnf)))
  refine Both.dec (fun h2 => ?_) (fun h2 => ?_)
  · have h := h k0 _ _ _ hk0 (abs_bad (.inr (by omega))).symm
    (conv => whnf)
    (repeat (first | (exact Out.same; conv => whnf) | (exact Out1.same; conv => whnf) | (refine QAnd.mk ?_ ?_; conv => whnf) | (apply QStepH.go; conv => whnf) | (refine Both.lit_true ?_; conv => whnf) | (refine Both.lit_false ?_; conv => whnf) | (apply QStep.go; conv => whnf) | (refine Need.mk ?_ ?_; (focus (first | omega | exact ⟨by omega, by omega⟩ | rfl | exact ⟨rfl, rfl⟩ | exact ⟨rfl, by omega, by omega⟩ | exact ⟨by omega, by omega, by omega⟩ | exact ⟨rfl, Nat.le_of_ble_eq_true rfl⟩ | exact Nat.le_of_ble_eq_true rfl | (refine ⟨rfl, rfl, ?_⟩; simp [isFar, ofV0, CV.up, SV.renL, SV.ren] <;> fail) | (refine ⟨rfl, Nat.le_of_ble_eq_true rfl, ?_⟩; simp [isFar, ofV0, CV.up, SV.renL, SV.ren] <;> fail) | (simp only [List.length_append, List.length_drop, List.length_take, List.length_replicate, List.length_map]; omega) | (simp <;> fail))); conv => whnf) | (refine ⟨_, rfl, ?_⟩; conv => whnf)))
    exact ⟨_, _, (WeakV.drop rfl).trans (WeakV.val fun E w v => vr_nil2 5), h⟩
  have hnb : ¬ (t.length < 1 ∨ 16 < t.length) := by omega
  (conv => whnf)
  (repeat (first | (exact Out.same; conv => whnf) | (exact Out1.same; conv => whnf) | (refine QAnd.mk ?_ ?_; conv => whnf) | (apply QStepH.go; conv => whnf) | (refine Both.lit_true ?_; conv => whnf) | (refine Both.lit_false ?_; conv => whnf) | (apply QStep.go; conv => whnf) | (refine Need.mk ?_ ?_; (focus (first | omega | exact ⟨by omega, by omega⟩ | rfl | exact ⟨rfl, rfl⟩ | exact ⟨rfl, by omega, by omega⟩ | exact ⟨by omega, by omega, by omega⟩ | exact ⟨rfl, Nat.le_of_ble_eq_true rfl⟩ | exact Nat.le_of_ble_eq_true rfl | (refine ⟨rfl, rfl, ?_⟩; simp [isFar, ofV0, CV.up, SV.renL, SV.ren] <;> fail) | (refine ⟨rfl, Nat.le_of_ble_eq_true rfl, ?_⟩; simp [isFar, ofV0, CV.up, SV.renL, SV.ren] <;> fail) | (simp only [List.length_append, List.length_drop, List.length_take, List.length_replicate, List.length_map]; omega) | (simp <;> fail))); conv => whnf) | (refine ⟨_, rfl, ?_⟩; conv => whnf)))
  refine CallVC.auto find_k.gl ⟨l, rfl, rfl, by omega, hsort, fun k hk => ?_⟩
  have hkl := hk.le
  by_cases hc : k < l.length ∧ kAt l k = t
  · have h := h k _ _ _ hk (abs_found hnb hc).symm
    have c1 : decide (k < l.length ∧ kAt l k = t) = true := decide_eq_true hc
    (conv => whnf)
    (repeat (first | (refine Both.of_true c1 ?_; conv => whnf) | (exact Out.same; conv => whnf) | (exact Out1.same; conv => whnf) | (refine QAnd.mk ?_ ?_; conv => whnf) | (apply QStepH.go; conv => whnf) | (refine Both.lit_true ?_; conv => whnf) | (refine Both.lit_false ?_; conv => whnf) | (apply QStep.go; conv => whnf) | (refine Need.mk ?_ ?_; (focus (first | omega | exact ⟨by omega, by omega⟩ | rfl | exact ⟨rfl, rfl⟩ | exact ⟨rfl, by omega, by omega⟩ | exact ⟨by omega, by omega, by omega⟩ | exact ⟨rfl, Nat.le_of_ble_eq_true rfl⟩ | exact Nat.le_of_ble_eq_true rfl | (refine ⟨rfl, rfl, ?_⟩; simp [isFar, ofV0, CV.up, SV.renL, SV.ren] <;> fail) | (refine ⟨rfl, Nat.le_of_ble_eq_true rfl, ?_⟩; simp [isFar, ofV0, CV.up, SV.renL, SV.ren] <;> fail) | (simp only [List.length_append, List.length_drop, List.length_take, List.length_replicate, List.length_map]; omega) | (simp <;> fail))); conv => whnf) | (refine ⟨_, rfl, ?_⟩; conv => whnf)))
    exact ⟨_, _, (WeakV.drop rfl).trans (WeakV.val fun E w v => vr_nil2 5), h⟩
  have h := h k _ _ _ hk (abs_yes hnb hc).symm
  have c1 : decide (k < l.length ∧ kAt l k = t) = false := decide_eq_false hc
  have hw : IntKind.i64.wrap ((k : Int) - 1) = (k : Int) - 1 := wrap_i64 (by omega) (by omega)
  (conv => whnf)
  (repeat (first | (refine Both.of_false c1 ?_; conv => whnf) | (exact Out.same; conv => whnf) | (exact Out1.same; conv => whnf) | (refine QAnd.mk ?_ ?_; conv => whnf) | (apply QStepH.go; conv => whnf) | (refine Both.lit_true ?_; conv => whnf) | (refine Both.lit_false ?_; conv => whnf) | (apply QStep.go; conv => whnf) | (refine Need.mk ?_ ?_; (focus (first | omega | exact ⟨by omega, by omega⟩ | rfl | exact ⟨rfl, rfl⟩ | exact ⟨rfl, by omega, by omega⟩ | exact ⟨by omega, by omega, by omega⟩ | exact ⟨rfl, Nat.le_of_ble_eq_true rfl⟩ | exact Nat.le_of_ble_eq_true rfl | (refine ⟨rfl, rfl, ?_⟩; simp [isFar, ofV0, CV.up, SV.renL, SV.ren] <;> fail) | (refine ⟨rfl, Nat.le_of_ble_eq_true rfl, ?_⟩; simp [isFar, ofV0, CV.up, SV.renL, SV.ren] <;> fail) | (simp only [List.length_append, List.length_drop, List.length_take, List.length_replicate, List.length_map]; omega) | (simp <;> fail))); conv => whnf) | (refine ⟨_, rfl, ?_⟩; conv => whnf)))
  refine Both.dec (fun h3 => ?_) (fun h3 => ?_)
  · rw [if_neg (by omega), if_neg (by omega)] at h
    (conv => whnf)
    (repeat (first | (exact Out.same; conv => whnf) | (exact Out1.same; conv => whnf) | (refine QAnd.mk ?_ ?_; conv => whnf) | (apply QStepH.go; conv => whnf) | (refine Both.lit_true ?_; conv => whnf) | (refine Both.lit_false ?_; conv => whnf) | (apply QStep.go; conv => whnf) | (refine Need.mk ?_ ?_; (focus (first | omega | exact ⟨by omega, by omega⟩ | rfl | exact ⟨rfl, rfl⟩ | exact ⟨rfl, by omega, by omega⟩ | exact ⟨by omega, by omega, by omega⟩ | exact ⟨rfl, Nat.le_of_ble_eq_true rfl⟩ | exact Nat.le_of_ble_eq_true rfl | (refine ⟨rfl, rfl, ?_⟩; simp [isFar, ofV0, CV.up, SV.renL, SV.ren] <;> fail) | (refine ⟨rfl, Nat.le_of_ble_eq_true rfl, ?_⟩; simp [isFar, ofV0, CV.up, SV.renL, SV.ren] <;> fail) | (simp only [List.length_append, List.length_drop, List.length_take, List.length_replicate, List.length_map]; omega) | (simp <;> fail))); conv => whnf) | (refine ⟨_, rfl, ?_⟩; conv => whnf)))
    exact ⟨_, _, (WeakV.drop rfl).trans (WeakV.val fun E w v => vr_nil2 5), h⟩
  (conv => whnf)
  (repeat (first | (exact Out.same; conv => whnf) | (exact Out1.same; conv => whnf) | (refine QAnd.mk ?_ ?_; conv => whnf) | (apply QStepH.go; conv => whnf) | (refine Both.lit_true ?_; conv => whnf) | (refine Both.lit_false ?_; conv => whnf) | (apply QStep.go; conv => whnf) | (refine Need.mk ?_ ?_; (focus (first | omega | exact ⟨by omega, by omega⟩ | rfl | exact ⟨rfl, rfl⟩ | exact ⟨rfl, by omega, by omega⟩ | exact ⟨by omega, by omega, by omega⟩ | exact ⟨rfl, Nat.le_of_ble_eq_true rfl⟩ | exact Nat.le_of_ble_eq_true rfl | (refine ⟨rfl, rfl, ?_⟩; simp [isFar, ofV0, CV.up, SV.renL, SV.ren] <;> fail) | (refine ⟨rfl, Nat.le_of_ble_eq_true rfl, ?_⟩; simp [isFar, ofV0, CV.up, SV.renL, SV.ren] <;> fail) | (simp only [List.length_append, List.length_drop, List.length_take, List.length_replicate, List.length_map]; omega) | (simp <;> fail))); conv => whnf) | (refine ⟨_, rfl, ?_⟩; conv => whnf)))
  refine Both.dec (fun h4 => ?_) (fun h4 => ?_)
  · obtain rfl : k = 0 := by omega
    rw [if_neg (by omega), if_pos (by omega)] at h
    (conv => whnf)
    (repeat (first | (exact Out.same; conv => whnf) | (exact Out1.same; conv => whnf) | (refine QAnd.mk ?_ ?_; conv => whnf) | (apply QStepH.go; conv => whnf) | (refine Both.lit_true ?_; conv => whnf) | (refine Both.lit_false ?_; conv => whnf) | (apply QStep.go; conv => whnf) | (refine Need.mk ?_ ?_; (focus (first | omega | exact ⟨by omega, by omega⟩ | rfl | exact ⟨rfl, rfl⟩ | exact ⟨rfl, by omega, by omega⟩ | exact ⟨by omega, by omega, by omega⟩ | exact ⟨rfl, Nat.le_of_ble_eq_true rfl⟩ | exact Nat.le_of_ble_eq_true rfl | (refine ⟨rfl, rfl, ?_⟩; simp [isFar, ofV0, CV.up, SV.renL, SV.ren] <;> fail) | (refine ⟨rfl, Nat.le_of_ble_eq_true rfl, ?_⟩; simp [isFar, ofV0, CV.up, SV.renL, SV.ren] <;> fail) | (simp only [List.length_append, List.length_drop, List.length_take, List.length_replicate, List.length_map]; omega) | (simp <;> fail))); conv => whnf) | (refine ⟨_, rfl, ?_⟩; conv => whnf)))
    refine CallVC.auto (leaves_k hK) ⟨l, [0], rfl, rfl, h60, hok, rfl, rfl, Nat.le_of_ble_eq_true rfl, fun x hx => by rw [List.mem_singleton.1 hx]; omega, ?_⟩
    (conv => whnf)
    (repeat (first | (exact Out.same; conv => whnf) | (exact Out1.same; conv => whnf) | (refine QAnd.mk ?_ ?_; conv => whnf) | (apply QStepH.go; conv => whnf) | (refine Both.lit_true ?_; conv => whnf) | (refine Both.lit_false ?_; conv => whnf) | (apply QStep.go; conv => whnf) | (refine Need.mk ?_ ?_; (focus (first | omega | exact ⟨by omega, by omega⟩ | rfl | exact ⟨rfl, rfl⟩ | exact ⟨rfl, by omega, by omega⟩ | exact ⟨by omega, by omega, by omega⟩ | exact ⟨rfl, Nat.le_of_ble_eq_true rfl⟩ | exact Nat.le_of_ble_eq_true rfl | (refine ⟨rfl, rfl, ?_⟩; simp [isFar, ofV0, CV.up, SV.renL, SV.ren] <;> fail) | (refine ⟨rfl, Nat.le_of_ble_eq_true rfl, ?_⟩; simp [isFar, ofV0, CV.up, SV.renL, SV.ren] <;> fail) | (simp only [List.length_append, List.length_drop, List.length_take, List.length_replicate, List.length_map]; omega) | (simp <;> fail))); conv => whnf) | (refine ⟨_, rfl, ?_⟩; conv => whnf)))
    exact ⟨_, _, WeakV.drop rfl, h⟩
  (conv => whnf)
  (repeat (first | (exact Out.same; conv => whnf) | (exact Out1.same; conv => whnf) | (refine QAnd.mk ?_ ?_; conv => whnf) | (apply QStepH.go; conv => whnf) | (refine Both.lit_true ?_; conv => whnf) | (refine Both.lit_false ?_; conv => whnf) | (apply QStep.go; conv => whnf) | (refine Need.mk ?_ ?_; (focus (first | omega | exact ⟨by omega, by omega⟩ | rfl | exact ⟨rfl, rfl⟩ | exact ⟨rfl, by omega, by omega⟩ | exact ⟨by omega, by omega, by omega⟩ | exact ⟨rfl, Nat.le_of_ble_eq_true rfl⟩ | exact Nat.le_of_ble_eq_true rfl | (refine ⟨rfl, rfl, ?_⟩; simp [isFar, ofV0, CV.up, SV.renL, SV.ren] <;> fail) | (refine ⟨rfl, Nat.le_of_ble_eq_true rfl, ?_⟩; simp [isFar, ofV0, CV.up, SV.renL, SV.ren] <;> fail) | (simp only [List.length_append, List.length_drop, List.length_take, List.length_replicate, List.length_map]; omega) | (simp <;> fail))); conv => whnf) | (refine ⟨_, rfl, ?_⟩; conv => whnf)))
  refine Both.dec (fun h5 => ?_) (fun h5 => ?_)
  · rw [if_pos (by omega), if_neg (by omega)] at h
    have hks : [CV.int .i64 (IntKind.i64.wrap ((k : Int) - 1))] = kInts [k - 1] := by
      rw [hw, show (k : Int) - 1 = ((k - 1 : Nat) : Int) by omega]
      rfl
    (conv => whnf)
    (repeat (first | (exact Out.same; conv => whnf) | (exact Out1.same; conv => whnf) | (refine QAnd.mk ?_ ?_; conv => whnf) | (apply QStepH.go; conv => whnf) | (refine Both.lit_true ?_; conv => whnf) | (refine Both.lit_false ?_; conv => whnf) | (apply QStep.go; conv => whnf) | (refine Need.mk ?_ ?_; (focus (first | omega | exact ⟨by omega, by omega⟩ | rfl | exact ⟨rfl, rfl⟩ | exact ⟨rfl, by omega, by omega⟩ | exact ⟨by omega, by omega, by omega⟩ | exact ⟨rfl, Nat.le_of_ble_eq_true rfl⟩ | exact Nat.le_of_ble_eq_true rfl | (refine ⟨rfl, rfl, ?_⟩; simp [isFar, ofV0, CV.up, SV.renL, SV.ren] <;> fail) | (refine ⟨rfl, Nat.le_of_ble_eq_true rfl, ?_⟩; simp [isFar, ofV0, CV.up, SV.renL, SV.ren] <;> fail) | (simp only [List.length_append, List.length_drop, List.length_take, List.length_replicate, List.length_map]; omega) | (simp <;> fail))); conv => whnf) | (refine ⟨_, rfl, ?_⟩; conv => whnf)))
    refine CallVC.auto (leaves_k hK) ⟨l, [k - 1], rfl, rfl, h60, hok, hks, rfl, Nat.le_of_ble_eq_true rfl, fun x hx => by rw [List.mem_singleton.1 hx]; omega, ?_⟩
    (conv => whnf)
    (repeat (first | (exact Out.same; conv => whnf) | (exact Out1.same; conv => whnf) | (refine QAnd.mk ?_ ?_; conv => whnf) | (apply QStepH.go; conv => whnf) | (refine Both.lit_true ?_; conv => whnf) | (refine Both.lit_false ?_; conv => whnf) | (apply QStep.go; conv => whnf) | (refine Need.mk ?_ ?_; (focus (first | omega | exact ⟨by omega, by omega⟩ | rfl | exact ⟨rfl, rfl⟩ | exact ⟨rfl, by omega, by omega⟩ | exact ⟨by omega, by omega, by omega⟩ | exact ⟨rfl, Nat.le_of_ble_eq_true rfl⟩ | exact Nat.le_of_ble_eq_true rfl | (refine ⟨rfl, rfl, ?_⟩; simp [isFar, ofV0, CV.up, SV.renL, SV.ren] <;> fail) | (refine ⟨rfl, Nat.le_of_ble_eq_true rfl, ?_⟩; simp [isFar, ofV0, CV.up, SV.renL, SV.ren] <;> fail) | (simp only [List.length_append, List.length_drop, List.length_take, List.length_replicate, List.length_map]; omega) | (simp <;> fail))); conv => whnf) | (refine ⟨_, rfl, ?_⟩; conv => whnf)))
    exact ⟨_, _, WeakV.drop rfl, h⟩
  · rw [if_pos (by omega), if_pos (by omega)] at h
    have hks : [CV.int .i64 (IntKind.i64.wrap ((k : Int) - 1)), CV.int .i64 (k : Int)] = kInts [k - 1, k] := by
      rw [hw, show (k : Int) - 1 = ((k - 1 : Nat) : Int) by omega]
      rfl
    (conv => whnf)
    (repeat (first | (exact Out.same; conv => whnf) | (exact Out1.same; conv => whnf) | (refine QAnd.mk ?_ ?_; conv => whnf) | (apply QStepH.go; conv => whnf) | (refine Both.lit_true ?_; conv => whnf) | (refine Both.lit_false ?_; conv => whnf) | (apply QStep.go; conv => whnf) | (refine Need.mk ?_ ?_; (focus (first | omega | exact ⟨by omega, by omega⟩ | rfl | exact ⟨rfl, rfl⟩ | exact ⟨rfl, by omega, by omega⟩ | exact ⟨by omega, by omega, by omega⟩ | exact ⟨rfl, Nat.le_of_ble_eq_true rfl⟩ | exact Nat.le_of_ble_eq_true rfl | (refine ⟨rfl, rfl, ?_⟩; simp [isFar, ofV0, CV.up, SV.renL, SV.ren] <;> fail) | (refine ⟨rfl, Nat.le_of_ble_eq_true rfl, ?_⟩; simp [isFar, ofV0, CV.up, SV.renL, SV.ren] <;> fail) | (simp only [List.length_append, List.length_drop, List.length_take, List.length_replicate, List.length_map]; omega) | (simp <;> fail))); conv => whnf) | (refine ⟨_, rfl, ?_⟩; conv => whnf)))
    refine CallVC.auto (leaves_k hK) ⟨l, [k - 1, k], rfl, rfl, h60, hok, hks, rfl, Nat.le_of_ble_eq_true rfl, fun x hx => ?_, ?_⟩
    · rcases List.mem_cons.1 hx with rfl | hx
      · omega
      · rw [List.mem_singleton.1 hx]
        omega
    (conv => whnf)
    (repeat (first | (exact Out.same; conv => whnf) | (exact Out1.same; conv => whnf) | (refine QAnd.mk ?_ ?_; conv => whnf) | (apply QStepH.go; conv => whnf) | (refine Both.lit_true ?_; conv => whnf) | (refine Both.lit_false ?_; conv => whnf) | (apply QStep.go; conv => whnf) | (refine Need.mk ?_ ?_; (focus (first | omega | exact ⟨by omega, by omega⟩ | rfl | exact ⟨rfl, rfl⟩ | exact ⟨rfl, by omega, by omega⟩ | exact ⟨by omega, by omega, by omega⟩ | exact ⟨rfl, Nat.le_of_ble_eq_true rfl⟩ | exact Nat.le_of_ble_eq_true rfl | (refine ⟨rfl, rfl, ?_⟩; simp [isFar, ofV0, CV.up, SV.renL, SV.ren] <;> fail) | (refine ⟨rfl, Nat.le_of_ble_eq_true rfl, ?_⟩; simp [isFar, ofV0, CV.up, SV.renL, SV.ren] <;> fail) | (simp only [List.length_append, List.length_drop, List.length_take, List.length_replicate, List.length_map]; omega) | (simp <;> fail))); conv => whnf) | (refine ⟨_, rfl, ?_⟩; conv => whnf)))
    exact ⟨_, _, WeakV.drop rfl, h⟩
theorem mabs_k {y0 : CV} {cs0 : List CV} (hK : KAt y0 cs0) : Contract Tryd.prog [(0, y0 :: cs0)] 11 absS := ⟨⟨⟨_, rfl, rfl, rfl⟩⟩, mabs_c hK⟩
end Go.LX
end
section
set_option maxRecDepth 100000
set_option maxHeartbeats 2000000
set_option autoImplicit false
set_option linter.unusedVariables false
set_option linter.unusedSimpArgs false
namespace Go.LX
open Go.Proofs

theorem far2 {a f : Bool} {s n : Nat} {cs : List CV} : ∀ y ∈ [SV.bool a, SV.sl s n cs f], isFar y := by
  intro y hy
  rcases List.mem_cons.1 hy with rfl | hy
  · trivial
  · rw [List.mem_singleton.1 hy]
    trivial
end Go.LX
end
section
set_option maxRecDepth 100000
set_option maxHeartbeats 2000000
set_option autoImplicit false
set_option linter.unusedVariables false
set_option linter.unusedSimpArgs false
namespace Go.LX
open Go.Proofs

end Go.LX
end
section
set_option maxRecDepth 100000
set_option maxHeartbeats 1000000
set_option autoImplicit false
set_option linter.unusedVariables false
set_option linter.unusedSimpArgs false
namespace Go.LX
open Go.Proofs

def oneB (o : Oper) : Bool :=
  match o.op with
  | .move _ => true
  | .assign _ => true
  | .alloc _ => true
  | .load _ _ => true
  | .store _ _ _ => true
  | .fieldAddr _ _ _ => true
  | .indexAddr _ _ _ => true
  | .extract _ _ => true
  | _ => false
theorem run_v {P : Program} {w : World} {s : Sem Value} {n : Next} {w' : World} (h : (Bind.bind s fun x => (pure (Next.value x) : Sem Next)).run P w = .ok n w') : (∃ x, n = .value x) ∨ n = .skip := by
  rw [Sem.run_bind] at h
  generalize s.run P w = r at h
  cases r with
  | ok x w1 => cases h; exact .inl ⟨x, rfl⟩
  | halt e w1 => cases h
theorem run_u {P : Program} {w : World} {s : Sem Unit} {n : Next} {w' : World} (h : (Bind.bind s fun _ => (pure Next.skip : Sem Next)).run P w = .ok n w') : (∃ x, n = .value x) ∨ n = .skip := by
  rw [Sem.run_bind] at h
  generalize s.run P w = r at h
  cases r with
  | ok x w1 => cases h; exact .inr rfl
  | halt e w1 => cases h
theorem one_step {P : Program} {ρ : Operand → Value} {o : Oper} {w : World} {n : Next} {w' : World} (ho : oneB o = true) (h : (execOp ρ o).run P w = .ok n w') : (∃ x, n = .value x) ∨ n = .skip := by
  unfold oneB at ho
  unfold execOp at h
  split at ho
  · rename_i x he
    rw [he] at h
    cases h
    exact .inl ⟨_, rfl⟩
  · rename_i x he
    rw [he] at h
    cases h
    exact .inl ⟨_, rfl⟩
  · rename_i x he
    rw [he] at h
    exact run_v h
  · rename_i x y he
    rw [he] at h
    exact run_v h
  · rename_i x y z he
    rw [he] at h
    exact run_u h
  · rename_i x y z he
    rw [he] at h
    exact run_v h
  · rename_i x y z he
    rw [he] at h
    exact run_v h
  · rename_i x y he
    rw [he] at h
    exact run_v h
  · cases ho
theorem wp_and {P : Program} {o : Oper} {a : Act} {w : World} {K1 K2 : Act → World → Prop} {Q : Exit → Act → World → Prop} (ho : oneB o = true) (h1 : o.wp P a w K1 Q) (h2 : o.wp P a w K2 Q) : o.wp P a w (fun a w => K1 a w ∧ K2 a w) Q := by
  unfold Oper.wp at *
  have hs := fun n w' => one_step (P := P) (ρ := a.eval) (w := w) (n := n) (w' := w') ho
  generalize (execOp a.eval o).run P w = r at *
  cases r with
  | ok n w' =>
    rcases hs n w' rfl with ⟨x, rfl⟩ | rfl
    · exact ⟨h1, h2⟩
    · exact ⟨h1, h2⟩
  | halt x w' => cases x <;> exact h1
theorem wpOp_one {P : Program} {ops : Array Oper} {Q : Exit → Act → World → Prop} {i : Nat} {o : Oper} {K : Act → World → Prop} {a : Act} {w : World} (hQ : ¬ LetsOut Q) (ho : ops[i]? = some o) (hg : o.guard = none) : wpOp P ops Q i K a w ↔ o.wp P a w K Q := by
  have hw : Region.wanted o (yielded ops a.tmps) = true := by simp [Region.wanted, hg]
  unfold wpOp
  rw [ho]
  simp only [hw, if_true]
  exact ⟨fun h => h.elim id fun h => absurd h.2 hQ, .inl⟩
theorem mem_ready {ops : Array Oper} {listed : Array Bool} {k : Nat} (hs : listed.size = ops.size) : k ∈ Region.ready .any ops listed ↔ ∃ o, ops[k]? = some o ∧ listed.getD k false = false ∧ ∀ e ∈ o.after, Region.binds .any e = true → listed.getD e.on false = true := by
  unfold Region.ready
  rw [List.mem_filter, List.mem_range]
  by_cases hk : k < ops.size
  · have hgt : listed.getD k true = listed.getD k false := by
      rw [Array.getD_eq_getD_getElem?, Array.getD_eq_getD_getElem?, Array.getElem?_eq_getElem (by omega)]
      rfl
    rw [Array.getElem?_eq_getElem hk, hgt]
    simp only [hk, true_and, Option.map_some, Option.getD_some, Bool.and_eq_true, Bool.not_eq_true', Array.all_eq_true']
    constructor
    · rintro ⟨h1, h2⟩
      refine ⟨_, rfl, h1, fun e he hb => ?_⟩
      have := h2 e he
      rw [hb] at this
      simpa using this
    · rintro ⟨o, ho, h1, h2⟩
      obtain rfl := Option.some.inj ho
      refine ⟨h1, fun e he => ?_⟩
      cases hb : Region.binds .any e with
      | false => rfl
      | true => simpa using h2 e he hb
  · rw [Array.getElem?_eq_none (by omega)]
    constructor
    · rintro ⟨h, _⟩
      exact absurd h hk
    · rintro ⟨o, h, _⟩
      cases h
structure Sim (ops ops' : Array Oper) (π : Nat → Nat) (x y : Nat) : Prop where
  size : ops'.size = ops.size
  inv : ∀ k, π (π k) = k
  get : ∀ (k : Nat) (o : Oper), ops[k]? = some o → ∃ af : Array Edge, ops'[π k]? = some { o with after := af } ∧
    ∀ (f f' : Nat → Bool), (∀ m, f' (π m) = f m) → ((∀ e ∈ af, Region.binds .any e = true → f' e.on = true) ↔ (∀ e ∈ o.after, Region.binds .any e = true → f e.on = true) ∧ (k = x → f y = true))
def Same (π : Nat → Nat) (l l' : Array Bool) : Prop := l'.size = l.size ∧ ∀ m, l'.getD (π m) false = l.getD m false
theorem getD_set {l : Array Bool} {k m : Nat} (hk : k < l.size) : (l.setIfInBounds k true).getD m false = if k = m then true else l.getD m false := by
  rw [Array.getD_eq_getD_getElem?, Array.getElem?_setIfInBounds, Array.getD_eq_getD_getElem?]
  by_cases h : k = m
  · subst h
    rw [if_pos rfl, if_pos hk, if_pos rfl]
    rfl
  · rw [if_neg h, if_neg h]
theorem Same.set {π : Nat → Nat} {l l' : Array Bool} (h : Same π l l') (hi : ∀ k, π (π k) = k) {k : Nat} (hk : k < l.size) (hk' : π k < l'.size) : Same π (l.setIfInBounds k true) (l'.setIfInBounds (π k) true) := by
  refine ⟨by rw [Array.size_setIfInBounds, Array.size_setIfInBounds, h.1], fun m => ?_⟩
  rw [getD_set hk, getD_set hk', h.2 m]
  by_cases hm : k = m
  · rw [if_pos hm, if_pos (by rw [hm])]
  · rw [if_neg hm, if_neg (fun q => hm (by rw [← hi k, q, hi m]))]
theorem Sim.ready {ops ops' : Array Oper} {π : Nat → Nat} {x y : Nat} (h : Sim ops ops' π x y) {l l' : Array Bool} (hs : l.size = ops.size) (hl : Same π l l') (k : Nat) : π k ∈ Region.ready .any ops' l' ↔ k ∈ Region.ready .any ops l ∧ (k = x → l.getD y false = true) := by
  rw [mem_ready (by rw [hl.1, hs, h.size]), mem_ready hs]
  constructor
  · rintro ⟨o', ho', h1, h2⟩
    have hk : k < ops.size := by
      rcases Nat.lt_or_ge k ops.size with q | q
      · exact q
      · exfalso
        have hlt : π k < ops'.size := by
          rcases Nat.lt_or_ge (π k) ops'.size with u | u
          · exact u
          · rw [Array.getElem?_eq_none u] at ho'; cases ho'
        have hlt2 : π k < ops.size := by rw [← h.size]; exact hlt
        obtain ⟨af, ha, _⟩ := h.get (π k) (ops[π k]'hlt2) (Array.getElem?_eq_getElem hlt2)
        rw [h.inv k, Array.getElem?_eq_none (by rw [h.size]; exact q)] at ha
        cases ha
    obtain ⟨af, ha, hf⟩ := h.get k ops[k] (by rw [Array.getElem?_eq_getElem hk])
    obtain rfl := Option.some.inj (ho'.symm.trans ha)
    have := (hf (fun m => l.getD m false) (fun m => l'.getD m false) hl.2).1 h2
    exact ⟨⟨_, by rw [Array.getElem?_eq_getElem hk], by rw [← hl.2 k]; exact h1, this.1⟩, this.2⟩
  · rintro ⟨⟨o, ho, h1, h2⟩, hx⟩
    obtain ⟨af, ha, hf⟩ := h.get k o ho
    exact ⟨_, ha, by rw [hl.2 k]; exact h1, (hf (fun m => l.getD m false) (fun m => l'.getD m false) hl.2).2 ⟨h2, hx⟩⟩
theorem ready_lt {ops : Array Oper} {l : Array Bool} {k : Nat} (hs : l.size = ops.size) (h : k ∈ Region.ready .any ops l) : ∃ o, ops[k]? = some o ∧ k < ops.size := by
  obtain ⟨o, ho, _⟩ := (mem_ready hs).1 h
  refine ⟨o, ho, ?_⟩
  rcases Nat.lt_or_ge k ops.size with q | q
  · exact q
  · rw [Array.getElem?_eq_none q] at ho; cases ho
theorem Sim.past {P : Program} {Q : Exit → Act → World → Prop} (hQ : ¬ LetsOut Q) {ops ops' : Array Oper} {π : Nat → Nat} {x y : Nat} (h : Sim ops ops' π x y) (hg : ∀ (k : Nat) (o : Oper), ops[k]? = some o → o.guard = none) :
    ∀ (fuel : Nat) (l l' : Array Bool) (a : Act) (w : World), l.size = ops.size → Same π l l' → l.getD y false = true → wpAny P .any ops' Q fuel l' a w → wpAny P .any ops Q fuel l a w
  | 0, l, l', a, w, hs, hl, hy, h0 => by
    refine ⟨?_, h0.2⟩
    refine List.eq_nil_iff_forall_not_mem.2 fun k hk => ?_
    have := (h.ready hs hl k).2 ⟨hk, fun _ => hy⟩
    rw [h0.1] at this
    cases this
  | fuel + 1, l, l', a, w, hs, hl, hy, h0 => by
    refine ⟨fun hr => h0.1 ?_, fun k hk => ?_⟩
    · refine List.eq_nil_iff_forall_not_mem.2 fun k hk => ?_
      have := (h.ready hs hl (π k)).1 (by rw [h.inv]; exact hk)
      rw [hr] at this
      cases this.1
    · obtain ⟨o, ho, hlt⟩ := ready_lt hs hk
      obtain ⟨af, ha, _⟩ := h.get k o ho
      have hlt' : π k < ops'.size := by
        rcases Nat.lt_or_ge (π k) ops'.size with u | u
        · exact u
        · rw [Array.getElem?_eq_none u] at ha; cases ha
      have h1 := h0.2 (π k) ((h.ready hs hl k).2 ⟨hk, fun _ => hy⟩)
      rw [wpOp_one hQ ha (hg k o ho)] at h1
      rw [wpOp_one hQ ho (hg k o ho)]
      refine Oper.wp_mono (o := o) (fun a w hw => ?_) h1
      exact Sim.past hQ h hg fuel _ _ a w (by rw [Array.size_setIfInBounds, hs]) (hl.set h.inv (by rw [hs]; exact hlt) (by rw [hl.1, hs, ← h.size]; exact hlt')) (by rw [getD_set (by rw [hs]; exact hlt)]; split <;> first | rfl | exact hy) hw
theorem both_orders {P : Program} {Q : Exit → Act → World → Prop} (hQ : ¬ LetsOut Q) {ops ops1 ops2 : Array Oper} {π1 π2 : Nat → Nat} {i j : Nat} (s1 : Sim ops ops1 π1 j i) (s2 : Sim ops ops2 π2 i j) (hij : i ≠ j) (hg : ∀ (k : Nat) (o : Oper), ops[k]? = some o → o.guard = none ∧ oneB o = true)
    (hfree : ∃ o, ops[i]? = some o ∧ o.after = #[]) :
    ∀ (fuel : Nat) (l l1 l2 : Array Bool) (a : Act) (w : World), l.size = ops.size → Same π1 l l1 → Same π2 l l2 → l.getD i false = false → l.getD j false = false → wpAny P .any ops1 Q fuel l1 a w → wpAny P .any ops2 Q fuel l2 a w → wpAny P .any ops Q fuel l a w := by
  have hr0 : ∀ l : Array Bool, l.size = ops.size → l.getD i false = false → i ∈ Region.ready .any ops l := by
    intro l hs hi
    obtain ⟨o, ho, ha⟩ := hfree
    exact (mem_ready hs).2 ⟨o, ho, hi, fun e he => by rw [ha] at he; simp at he⟩
  have hgg : ∀ (k : Nat) (o : Oper), ops[k]? = some o → o.guard = none := fun k o ho => (hg k o ho).1
  intro fuel
  induction fuel with
  | zero =>
    intro l l1 l2 a w hs h1 h2 hi hj w1 w2
    exfalso
    have := (s1.ready hs h1 i).2 ⟨hr0 l hs hi, fun q => absurd q hij⟩
    rw [w1.1] at this
    cases this
  | succ fuel ih =>
    intro l l1 l2 a w hs h1 h2 hi hj w1 w2
    refine ⟨fun hr => ?_, fun k hk => ?_⟩
    · exfalso
      have := hr0 l hs hi
      rw [hr] at this
      cases this
    · obtain ⟨o, ho, hlt⟩ := ready_lt hs hk
      have side : ∀ {ops' : Array Oper} {π : Nat → Nat} {x y : Nat} (s : Sim ops ops' π x y) {l' : Array Bool} (hl : Same π l l'), π k < l'.size ∧ ∃ af : Array Edge, ops'[π k]? = some { o with after := af } := by
        intro ops' π x y s l' hl
        obtain ⟨af, ha, _⟩ := s.get k o ho
        refine ⟨?_, af, ha⟩
        rw [hl.1, hs, ← s.size]
        rcases Nat.lt_or_ge (π k) ops'.size with u | u
        · exact u
        · rw [Array.getElem?_eq_none u] at ha; cases ha
      have hkl : k < l.size := by rw [hs]; exact hlt
      have hsz : (l.setIfInBounds k true).size = ops.size := by rw [Array.size_setIfInBounds, hs]
      rw [wpOp_one hQ ho (hgg k o ho)]
      by_cases hki : k = i
      · obtain ⟨q1, af, q2⟩ := side s1 h1
        have := w1.2 (π1 k) ((s1.ready hs h1 k).2 ⟨hk, fun q => absurd (hki.symm.trans q) hij⟩)
        rw [wpOp_one hQ q2 (hgg k o ho)] at this
        refine Oper.wp_mono (o := o) (fun a w hw => ?_) this
        exact s1.past hQ hgg fuel _ _ a w hsz (h1.set s1.inv hkl q1) (by rw [getD_set hkl, if_pos hki]) hw
      by_cases hkj : k = j
      · obtain ⟨q1, af, q2⟩ := side s2 h2
        have := w2.2 (π2 k) ((s2.ready hs h2 k).2 ⟨hk, fun q => absurd q hki⟩)
        rw [wpOp_one hQ q2 (hgg k o ho)] at this
        refine Oper.wp_mono (o := o) (fun a w hw => ?_) this
        exact s2.past hQ hgg fuel _ _ a w hsz (h2.set s2.inv hkl q1) (by rw [getD_set hkl, if_pos hkj]) hw
      · obtain ⟨q1, af1, q2⟩ := side s1 h1
        obtain ⟨p1, af2, p2⟩ := side s2 h2
        have t1 := w1.2 (π1 k) ((s1.ready hs h1 k).2 ⟨hk, fun q => absurd q hkj⟩)
        have t2 := w2.2 (π2 k) ((s2.ready hs h2 k).2 ⟨hk, fun q => absurd q hki⟩)
        rw [wpOp_one hQ q2 (hgg k o ho)] at t1
        rw [wpOp_one hQ p2 (hgg k o ho)] at t2
        refine Oper.wp_mono (o := o) (fun a w hw => ?_) (wp_and (o := o) (hg k o ho).2 t1 t2)
        exact ih _ _ _ a w hsz (h1.set s1.inv hkl q1) (h2.set s2.inv hkl p1) (by rw [getD_set hkl, if_neg hki, hi]) (by rw [getD_set hkl, if_neg hkj, hj]) hw.1 hw.2
def addE (i : Nat) (o : Oper) : Oper := { o with after := (o.after.toList ++ [({ on := i, ground := .data } : Edge)]).toArray }
def edgeL : Nat → Nat → List Oper → List Oper
  | _, _, [] => []
  | 0, i, o :: r => addE i o :: r
  | n + 1, i, o :: r => o :: edgeL n i r
theorem edgeL_get : ∀ (j i : Nat) (l : List Oper) (k : Nat), (edgeL j i l)[k]? = if k = j then (l[k]?).map (addE i) else l[k]?
  | _, _, [], k => by simp [edgeL]
  | 0, i, o :: r, 0 => rfl
  | 0, i, o :: r, k + 1 => by rw [edgeL, if_neg (by omega)]; rfl
  | n + 1, i, o :: r, 0 => by rw [edgeL, if_neg (by omega)]; rfl
  | n + 1, i, o :: r, k + 1 => by
    rw [edgeL, List.getElem?_cons_succ, edgeL_get n i r k, List.getElem?_cons_succ]
    by_cases h : k = n
    · rw [if_pos h, if_pos (by omega)]
    · rw [if_neg h, if_neg (by omega)]
theorem edgeL_len : ∀ (j i : Nat) (l : List Oper), (edgeL j i l).length = l.length
  | _, _, [] => by simp [edgeL]
  | 0, i, o :: r => rfl
  | n + 1, i, o :: r => by rw [edgeL, List.length_cons, edgeL_len n i r, List.length_cons]
def tau (i k : Nat) : Nat := match Nat.beq k i with
  | true => i + 1
  | false => match Nat.beq k (i + 1) with
    | true => i
    | false => k
theorem beq_ne {k i : Nat} (h : ¬ k = i) : Nat.beq k i = false := by
  cases hb : Nat.beq k i with
  | false => rfl
  | true => exact absurd (Nat.eq_of_beq_eq_true hb) h
theorem tau_eq (i k : Nat) : tau i k = if k = i then i + 1 else if k = i + 1 then i else k := by
  unfold tau
  by_cases h : k = i
  · subst h
    rw [Nat.beq_refl, if_pos rfl]
  · rw [if_neg h, beq_ne h]
    dsimp only
    by_cases h2 : k = i + 1
    · subst h2
      rw [Nat.beq_refl, if_pos rfl]
    · rw [if_neg h2, beq_ne h2]
theorem tau_inv (i k : Nat) : tau i (tau i k) = k := by
  rw [tau_eq, tau_eq]
  by_cases h : k = i
  · rw [if_pos h, if_neg (by omega), if_pos rfl, h]
  · rw [if_neg h]
    by_cases h2 : k = i + 1
    · rw [if_pos h2, if_pos rfl, h2]
    · rw [if_neg h2, if_neg h, if_neg h2]
def renE (i : Nat) (e : Edge) : Edge := { e with on := tau i e.on }
def renO (i : Nat) (o : Oper) : Oper := { o with after := (o.after.toList.map (renE i)).toArray }
def swapL : Nat → List Oper → List Oper
  | 0, a :: b :: r => b :: a :: r
  | n + 1, a :: r => a :: swapL n r
  | _, l => l
theorem swapL_get : ∀ (i : Nat) (l : List Oper) (k : Nat), i + 1 < l.length → (swapL i l)[tau i k]? = l[k]?
  | 0, a :: b :: r, k, h => by
    rw [tau_eq]
    match k with
    | 0 => rfl
    | 1 => rfl
    | k + 2 => rw [if_neg (by omega), if_neg (by omega)]; rfl
  | 0, [_], k, h => by simp at h
  | 0, [], k, h => by simp at h
  | n + 1, [], k, h => by simp at h
  | n + 1, a :: r, 0, h => by
    rw [tau_eq, if_neg (by omega), if_neg (by omega)]
    rfl
  | n + 1, a :: r, k + 1, h => by
    have ih := swapL_get n r k (by simpa using h)
    have e : tau (n + 1) (k + 1) = tau n k + 1 := by
      rw [tau_eq, tau_eq]
      by_cases h1 : k = n
      · rw [if_pos h1, if_pos (by omega)]
      · rw [if_neg h1, if_neg (by omega)]
        by_cases h2 : k = n + 1
        · rw [if_pos h2, if_pos (by omega)]
        · rw [if_neg h2, if_neg (by omega)]
    rw [e, swapL, List.getElem?_cons_succ, ih, List.getElem?_cons_succ]
theorem swapL_len : ∀ (i : Nat) (l : List Oper), (swapL i l).length = l.length
  | 0, a :: b :: r => rfl
  | 0, [_] => rfl
  | 0, [] => rfl
  | n + 1, [] => rfl
  | n + 1, a :: r => by rw [swapL, List.length_cons, swapL_len n r, List.length_cons]
def opsE (j i : Nat) (ops : Array Oper) : Array Oper := (edgeL j i ops.toList).toArray
def opsS (i : Nat) (ops : Array Oper) : Array Oper := (swapL i ((edgeL i (i + 1) ops.toList).map (renO i))).toArray
theorem sim_edge (ops : Array Oper) (j i : Nat) : Sim ops (opsE j i ops) (fun k => k) j i where
  size := by unfold opsE; rw [List.size_toArray, edgeL_len, Array.length_toList]
  inv _ := rfl
  get k o ho := by
    have h1 : (opsE j i ops)[k]? = if k = j then (ops[k]?).map (addE i) else ops[k]? := by
      unfold opsE
      rw [List.getElem?_toArray, edgeL_get, Array.getElem?_toList]
    rw [h1, ho]
    by_cases hk : k = j
    · refine ⟨_, by rw [if_pos hk]; rfl, fun f f' hf => ?_⟩
      constructor
      · intro q
        refine ⟨fun e he hb => by rw [← hf]; exact q e (by simp [he]) hb, fun _ => by rw [← hf]; exact q ⟨i, .data⟩ (by simp) rfl⟩
      · rintro ⟨q1, q2⟩ e he hb
        rw [List.mem_toArray, List.mem_append] at he
        rcases he with he | he
        · rw [hf]; exact q1 e (by simpa using he) hb
        · rw [List.mem_singleton.1 he, hf]; exact q2 hk
    · refine ⟨o.after, by rw [if_neg hk], fun f f' hf => ?_⟩
      constructor
      · intro q
        exact ⟨fun e he hb => by rw [← hf]; exact q e he hb, fun u => absurd u hk⟩
      · rintro ⟨q1, _⟩ e he hb
        rw [hf]; exact q1 e he hb
theorem sim_swap (ops : Array Oper) (i : Nat) (hi : i + 1 < ops.size) : Sim ops (opsS i ops) (tau i) i (i + 1) where
  size := by unfold opsS; rw [List.size_toArray, swapL_len, List.length_map, edgeL_len, Array.length_toList]
  inv := tau_inv i
  get k o ho := by
    have h1 : (opsS i ops)[tau i k]? = (if k = i then (ops[k]?).map (addE (i + 1)) else ops[k]?).map (renO i) := by
      unfold opsS
      rw [List.getElem?_toArray, swapL_get _ _ _ (by rw [List.length_map, edgeL_len, Array.length_toList]; exact hi), List.getElem?_map, edgeL_get, Array.getElem?_toList]
    have hb0 : ∀ e : Edge, Region.binds .any (renE i e) = Region.binds .any e := fun e => rfl
    rw [h1, ho]
    by_cases hk : k = i
    · refine ⟨_, by rw [if_pos hk]; rfl, fun f f' hf => ?_⟩
      constructor
      · intro q
        refine ⟨fun e he hb => by rw [← hf]; exact q (renE i e) (by simp [addE]; exact .inl ⟨e, he, rfl⟩) hb, fun _ => by rw [← hf]; exact q (renE i ⟨i + 1, .data⟩) (by simp [addE]) rfl⟩
      · rintro ⟨q1, q2⟩ e he hb
        rw [List.mem_toArray, List.mem_map] at he
        obtain ⟨e', he', rfl⟩ := he
        show f' (tau i e'.on) = true
        rw [hf]
        simp only [addE, List.mem_append, List.mem_singleton] at he'
        rcases he' with he' | rfl
        · exact q1 e' (by simpa using he') hb
        · exact q2 hk
    · refine ⟨_, by rw [if_neg hk]; rfl, fun f f' hf => ?_⟩
      constructor
      · intro q
        exact ⟨fun e he hb => by rw [← hf]; exact q (renE i e) (by simp; exact ⟨e, he, rfl⟩) hb, fun u => absurd u hk⟩
      · rintro ⟨q1, _⟩ e he hb
        rw [List.mem_toArray, List.mem_map] at he
        obtain ⟨e', he', rfl⟩ := he
        show f' (tau i e'.on) = true
        rw [hf]
        exact q1 e' (by simpa using he') hb
def AnyVC (P : Program) (G : Gl) (N : Nat) (ops : Array Oper) (s : LS) (K : Exit → LS → Prop) : Prop :=
  ∀ A E w a, A.n = N → SR G A E s a w → wpAny P .any ops (onlyN fun a' w' => Then G A E s w (K .normal) a' w') ops.size (Array.replicate ops.size false) a { w with drawn := w.drawn + 1 }
theorem no_listed (n i : Nat) : (Array.replicate n false).getD i false = false := by
  simp only [Array.getD_eq_getD_getElem?, Array.getElem?_replicate]
  split <;> rfl
theorem AnyVC.quiet (qs : List Nat) {P : Program} {Γ : Ty} (hΓ : TyOk P Γ) {G : Gl} {N : Nat} {ops : Array Oper} {s : LS} {K : Exit → LS → Prop}
    (hB : okI ops = true) (hW : wChain qs ops.toList 0 none = true) (hT : Nat.ble s.t.length 10000 = true) (h : drawK3 P Γ G qs ops.toList (K .normal) 0 ops.toList s.t s.h [] []) : AnyVC P G N ops s K := by
  intro A E w a hA hs
  obtain ⟨xs, f, h1, h0, h2, _, h3⟩ := drawK3_out (fun j o hj => by rw [Nat.zero_add]; exact hj) (fun p hp => by cases hp) h
  have hst : Step E s.h w E s.h { w with drawn := w.drawn + 1 } := ⟨Nat.le_refl _, fun _ _ _ => rfl, rfl, rfl, rfl, fun b h => .inr h, fun b h => h, fun b h => .inl h⟩
  have hc0 : ∀ (t : List SV) (ds : List Nat) (xs : List SV) (n : Nat), curF t ds xs (List.replicate n false) = t := by
    intro t ds
    induction ds generalizing t with
    | nil => intro xs n; simp [curF]
    | cons d ds ih =>
      intro xs n
      cases xs with
      | nil => simp [curF]
      | cons x xs =>
        cases n with
        | zero => simp [curF]
        | succ n => rw [List.replicate_succ, curF]; exact ih t xs n
  have hno := fun i => no_listed ops.size i
  refine any_order2 (A := A) (E0 := E) (w0 := w) (t0 := s.t) (hs := f) (xs := xs) hΓ (Nat.le_of_ble_eq_true hT) hB hW h1 (fun m o x hm hx => by
      have := h3 m o x hm hx
      simp only [Nat.zero_add] at this
      rcases this with h | ⟨h6, h | ⟨h7, h8, d, h9, h10 | h10⟩⟩
      · exact .inl h
      · exact .inr ⟨h6, .inl h⟩
      · exact .inr ⟨h6, .inr ⟨h7, h8, d, h9, .inl fun j hj hfr hah => h10.2 j (by simpa using hj) hfr hah⟩⟩
      · exact .inr ⟨h6, .inr ⟨h7, h8, d, h9, .inr fun j hj hfr hah => h10.2 j (by simpa using hj) hfr hah⟩⟩) (fun E' a' w' hs' hst' => ⟨rfl, _, E', h2, hs', by rw [h0] at hst'; exact hst'⟩) ops.size _ E a _ 0 (Nat.zero_le _) (fun i o _ _ => by rw [hno]; simp) (by simp) (by simp) (fun j oj hoj hlj => by
    exfalso
    rw [hno] at hlj
    cases hlj) ?_ (by rw [h0]; exact hst)
  rw [Array.toList_replicate, hc0, h0]
  exact ⟨hs.anc, VRs.kept (w := w) (w' := { w with drawn := w.drawn + 1 }) (Env.Le.refl E) (fun _ h => h) (fun _ _ => rfl) hs.vals,
    ⟨hs.rel.len, fun i o hi => ObjR.kept (w := w) (w' := { w with drawn := w.drawn + 1 }) (Env.Le.refl E) (fun _ h => h) (fun _ _ => rfl) (hs.rel.lt hi) (fun _ _ => rfl) (hs.rel.obj i o hi), hs.rel.sep, hs.rel.imm, hs.rel.ltI⟩,
    hs.gl.kept (w := w) (w' := { w with drawn := w.drawn + 1 }) (fun _ h => h) (fun _ _ => rfl), hs.nod⟩
def twoB (i : Nat) (l : List Oper) : Bool :=
  (l.all fun o => o.guard.isNone && oneB o) && Nat.blt (i + 1) l.length && (match l[i]? with
    | some o => o.after.toList.isEmpty
    | none => false)
theorem DrawVC.two (i : Nat) {P : Program} {Γ : Ty} {G : Gl} {N id : Nat} {ops : Array Oper} {s : LS} {K : Exit → LS → Prop} (hm : P.follows .mixedOrders = true) (hB : twoB i ops.toList = true)
    (h1 : AnyVC P G N (opsE (i + 1) i ops) s K) (h2 : AnyVC P G N (opsS i ops) s K) : DrawVC P Γ G N id ops s K := by
  refine ⟨fun X hX A E w a hA hs hJ => ?_⟩
  unfold twoB at hB
  rw [Bool.and_eq_true, Bool.and_eq_true] at hB
  obtain ⟨⟨b1, b2⟩, b3⟩ := hB
  have b2' : i + 1 + 1 ≤ ops.size := by simpa [Nat.blt] using b2
  have b2 : i + 1 < ops.size := by omega
  have hfree : ∃ o, ops[i]? = some o ∧ o.after = #[] := by
    rw [Array.getElem?_toList] at b3
    cases ho : ops[i]? with
    | none => rw [ho] at b3; cases b3
    | some o =>
      rw [ho] at b3
      refine ⟨o, rfl, ?_⟩
      have : o.after.toList = [] := by simpa using b3
      exact Array.toList_inj.1 this
  have hg : ∀ (k : Nat) (o : Oper), ops[k]? = some o → o.guard = none ∧ oneB o = true := by
    intro k o ho
    have hmem : o ∈ ops.toList := List.mem_of_getElem? (by rw [Array.getElem?_toList]; exact ho)
    have := List.all_eq_true.1 b1 o hmem
    rw [Bool.and_eq_true] at this
    exact ⟨by simpa using this.1, this.2⟩
  have s1 := sim_edge ops (i + 1) i
  have s2 := sim_swap ops i b2
  have w1 := h1 A E w a hA hs
  have w2 := h2 A E w a hA hs
  rw [s1.size] at w1
  rw [s2.size] at w2
  have same : ∀ π : Nat → Nat, Same π (Array.replicate ops.size false) (Array.replicate ops.size false) := fun π => ⟨rfl, fun m => by rw [no_listed, no_listed]⟩
  have hw := both_orders (onlyN_out _) s1 s2 (by omega : i ≠ i + 1) hg hfree ops.size _ _ _ a { w with drawn := w.drawn + 1 } (by simp) (same _) (same _) (no_listed _ _) (no_listed _ _) w1 w2
  exact wpIn_mono (wpIn_region_any hm (wpAny_lift (onlyN_out _) hX _ hw)) (liftQ_only fun a w h => h)
end Go.LX
end
