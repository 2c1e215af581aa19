import Derived.Test.YtcmnomppneiiiaaNc
set_option maxRecDepth 100000
set_option maxHeartbeats 4000000
set_option autoImplicit false
set_option linter.unusedVariables false
set_option linter.unusedSimpArgs false
namespace Go.LX
open Go.Proofs

/-! ## The document's side -/
def rrightVS : Spec := fun args H Q => match args, H with
  | [.agg [.int .i64 f, .int .u64 s, .int .u64 t, .str d]], [] => Need (0 ≤ s ∧ 0 ≤ t) (Q (.bool (pok f s t d)) [])
  | _, _ => False
theorem rrightV_k : Contract Try.prog [] 42 rrightVS := rright_k.imp fun args H Q h => by
  unfold rrightVS at h
  split at h
  case h_2 => exact h.elim
  exact ⟨h.pre, fun b hb => hb ▸ h.rest⟩
def ncheckVS : Spec := fun args H Q => match args, H with
  | [.agg [.int .i64 k, .int .i64 f, .int .u64 s, .int .u64 t, .str d]], [] => Q (.int .i64 (okE (nok k f s t d))) []
  | _, _ => False
theorem ncheckV_k : Contract Try.prog [] 8 ncheckVS := ncheck_k.imp fun args H Q h => by
  unfold ncheckVS at h
  split at h
  case h_2 => exact h.elim
  exact fun e he => he ▸ h
def nbyVS : Spec := fun args H Q => match args, H with
  | [.agg [.int .i64 k, .int .i64 f, .int .u64 s, .int .u64 t, .str d]], [] => Q (.int .i64 (nby k f s t d)) []
  | _, _ => False
theorem nbyV_k : Contract Try.prog [] 7 nbyVS := nby_k.imp fun args H Q h => by
  unfold nbyVS at h
  split at h
  case h_2 => exact h.elim
  exact fun e he => he ▸ h
def rpbS : Spec := fun args H Q => match args, H with
  | [.agg [.int .i64 f, .int .u64 s, .int .u64 t, .str d]], [] => Need (pok f s t d = true ∧ s < 18446744073709551616 ∧ t < 18446744073709551616 ∧ 0 ≤ s ∧ 0 ≤ t) (Q (.str (pbytes f s t d)) [])
  | _, _ => False
theorem rpb_c : Meets Try.prog [] 36 rpbS := by
  refine meets_of Γok Try.func36 rfl ?_
  intro args H Q h
  unfold rpbS at h
  split at h
  case h_2 => exact h.elim
  rename_i f s t d
  obtain ⟨⟨hp, h1, h2, h3, h4⟩, h⟩ := h
  simp [pok] at hp
  have hw : IntKind.u64.wrap f = f := wrap_u64 (by omega) (by omega)
  have hwd : IntKind.u64.wrap (d.length : Int) = d.length := wrap_u64 (by omega) (by omega)
  (refine sx_sound Γok _ ?_; conv => whnf)
  (repeat (first | (exact Out.same; conv => whnf) | (exact Out1.same; conv => whnf) | (refine QAnd.mk ?_ ?_; conv => whnf) | (apply QStepH.go; conv => whnf) | (refine Both.lit_true ?_; conv => whnf) | (refine Both.lit_false ?_; conv => whnf) | (apply QStep.go; conv => whnf) | (refine Need.mk ?_ ?_; (focus (first | omega | exact ⟨by omega, by omega⟩ | rfl | exact ⟨rfl, rfl⟩ | exact ⟨rfl, by omega, by omega⟩ | exact ⟨by omega, by omega, by omega⟩ | exact ⟨rfl, Nat.le_of_ble_eq_true rfl⟩ | exact Nat.le_of_ble_eq_true rfl | (refine ⟨rfl, rfl, ?_⟩; simp [isFar, ofV0, CV.up, SV.renL, SV.ren] <;> fail) | (refine ⟨rfl, Nat.le_of_ble_eq_true rfl, ?_⟩; simp [isFar, ofV0, CV.up, SV.renL, SV.ren] <;> fail) | (simp <;> fail))); conv => whnf) | (refine ⟨_, rfl, ?_⟩; conv => whnf)))
  (refine DrawVC.any Γok (by kernel_rfl) (by kernel_rfl) (by kernel_rfl) (by rfl) ?_; conv => whnf)
  (repeat (first | (refine CallVC.auto rb_k ⟨f.toNat, 1, by rw [hw]; omega, by omega, rfl, by omega, ?_⟩; conv => whnf) | (refine CallVC.auto rb_k ⟨s.toNat, 8, by omega, by omega, rfl, by omega, ?_⟩; conv => whnf) | (refine CallVC.auto rb_k ⟨t.toNat, 8, by omega, by omega, rfl, by omega, ?_⟩; conv => whnf) | (refine CallVC.auto rb_k ⟨d.length, 2, hwd, by omega, rfl, by omega, ?_⟩; conv => whnf) | (refine Need.mk (by simp only [beb_length, List.length_append]; omega) ?_; conv => whnf) | (exact Out.same; conv => whnf) | (exact Out1.same; conv => whnf) | (refine QAnd.mk ?_ ?_; conv => whnf) | (apply QStepH.go; conv => whnf) | (refine Both.lit_true ?_; conv => whnf) | (refine Both.lit_false ?_; conv => whnf) | (apply QStep.go; conv => whnf) | (refine Need.mk ?_ ?_; (focus (first | omega | exact ⟨by omega, by omega⟩ | rfl | exact ⟨rfl, rfl⟩ | exact ⟨rfl, by omega, by omega⟩ | exact ⟨by omega, by omega, by omega⟩ | exact ⟨rfl, Nat.le_of_ble_eq_true rfl⟩ | exact Nat.le_of_ble_eq_true rfl | (refine ⟨rfl, rfl, ?_⟩; simp [isFar, ofV0, CV.up, SV.renL, SV.ren] <;> fail) | (refine ⟨rfl, Nat.le_of_ble_eq_true rfl, ?_⟩; simp [isFar, ofV0, CV.up, SV.renL, SV.ren] <;> fail) | (simp <;> fail))); conv => whnf) | (refine ⟨_, rfl, ?_⟩; conv => whnf)))
  refine ⟨_, _, WeakV.drop (congrArg SV.str ?_), h⟩
  rw [pbytes]
  simp
theorem rpb_k : Contract Try.prog [] 36 rpbS := ⟨⟨⟨_, rfl, rfl, rfl⟩⟩, rpb_c⟩
def rnrightS : Spec := fun args H Q => match args, H with
  | [.agg [.int .i64 k, .int .i64 f, .int .u64 s, .int .u64 t, .str d]], [] => Need (0 ≤ s ∧ 0 ≤ t) (Q (.bool (nok k f s t d)) [])
  | _, _ => False
theorem rnright_c : Meets Try.prog [] 20 rnrightS := by
  refine meets_of Γok Try.func20 rfl ?_
  intro args H Q h
  unfold rnrightS at h
  split at h
  case h_2 => exact h.elim
  rename_i k f s t d
  obtain ⟨⟨hs, ht⟩, h⟩ := h
  have bad : ¬ (1 ≤ k ∧ k ≤ 4) → Q (.bool false) [] := fun h0 => by rw [nok, decide_eq_false h0] at h; exact h
  (refine sx_sound Γok _ ?_; conv => whnf)
  (repeat (first | (exact Out.same; conv => whnf) | (exact Out1.same; conv => whnf) | (refine QAnd.mk ?_ ?_; conv => whnf) | (apply QStepH.go; conv => whnf) | (refine Both.lit_true ?_; conv => whnf) | (refine Both.lit_false ?_; conv => whnf) | (apply QStep.go; conv => whnf) | (refine Need.mk ?_ ?_; (focus (first | omega | exact ⟨by omega, by omega⟩ | rfl | exact ⟨rfl, rfl⟩ | exact ⟨rfl, by omega, by omega⟩ | exact ⟨by omega, by omega, by omega⟩ | exact ⟨rfl, Nat.le_of_ble_eq_true rfl⟩ | exact Nat.le_of_ble_eq_true rfl | (refine ⟨rfl, rfl, ?_⟩; simp [isFar, ofV0, CV.up, SV.renL, SV.ren] <;> fail) | (refine ⟨rfl, Nat.le_of_ble_eq_true rfl, ?_⟩; simp [isFar, ofV0, CV.up, SV.renL, SV.ren] <;> fail) | (simp <;> fail))); conv => whnf) | (refine ⟨_, rfl, ?_⟩; conv => whnf)))
  refine Both.dec (fun h1 => ?_) (fun h1 => ?_)
  · (conv => whnf)
    (repeat (first | (exact Out.same; conv => whnf) | (exact Out1.same; conv => whnf) | (refine QAnd.mk ?_ ?_; conv => whnf) | (apply QStepH.go; conv => whnf) | (refine Both.lit_true ?_; conv => whnf) | (refine Both.lit_false ?_; conv => whnf) | (apply QStep.go; conv => whnf) | (refine Need.mk ?_ ?_; (focus (first | omega | exact ⟨by omega, by omega⟩ | rfl | exact ⟨rfl, rfl⟩ | exact ⟨rfl, by omega, by omega⟩ | exact ⟨by omega, by omega, by omega⟩ | exact ⟨rfl, Nat.le_of_ble_eq_true rfl⟩ | exact Nat.le_of_ble_eq_true rfl | (refine ⟨rfl, rfl, ?_⟩; simp [isFar, ofV0, CV.up, SV.renL, SV.ren] <;> fail) | (refine ⟨rfl, Nat.le_of_ble_eq_true rfl, ?_⟩; simp [isFar, ofV0, CV.up, SV.renL, SV.ren] <;> fail) | (simp <;> fail))); conv => whnf) | (refine ⟨_, rfl, ?_⟩; conv => whnf)))
    refine Both.dec (fun h2 => ?_) (fun h2 => ?_)
    · (conv => whnf)
      (repeat (first | (exact Out.same; conv => whnf) | (exact Out1.same; conv => whnf) | (refine QAnd.mk ?_ ?_; conv => whnf) | (apply QStepH.go; conv => whnf) | (refine Both.lit_true ?_; conv => whnf) | (refine Both.lit_false ?_; conv => whnf) | (apply QStep.go; conv => whnf) | (refine Need.mk ?_ ?_; (focus (first | omega | exact ⟨by omega, by omega⟩ | rfl | exact ⟨rfl, rfl⟩ | exact ⟨rfl, by omega, by omega⟩ | exact ⟨by omega, by omega, by omega⟩ | exact ⟨rfl, Nat.le_of_ble_eq_true rfl⟩ | exact Nat.le_of_ble_eq_true rfl | (refine ⟨rfl, rfl, ?_⟩; simp [isFar, ofV0, CV.up, SV.renL, SV.ren] <;> fail) | (refine ⟨rfl, Nat.le_of_ble_eq_true rfl, ?_⟩; simp [isFar, ofV0, CV.up, SV.renL, SV.ren] <;> fail) | (simp <;> fail))); conv => whnf) | (refine ⟨_, rfl, ?_⟩; conv => whnf) | (refine CallVC.auto rrightV_k ?_; conv => whnf)))
      rw [nok, decide_eq_true ⟨h1, h2⟩, Bool.true_and] at h
      exact ⟨_, _, WeakV.drop rfl, h⟩
    · (conv => whnf)
      (repeat (first | (exact Out.same; conv => whnf) | (exact Out1.same; conv => whnf) | (refine QAnd.mk ?_ ?_; conv => whnf) | (apply QStepH.go; conv => whnf) | (refine Both.lit_true ?_; conv => whnf) | (refine Both.lit_false ?_; conv => whnf) | (apply QStep.go; conv => whnf) | (refine Need.mk ?_ ?_; (focus (first | omega | exact ⟨by omega, by omega⟩ | rfl | exact ⟨rfl, rfl⟩ | exact ⟨rfl, by omega, by omega⟩ | exact ⟨by omega, by omega, by omega⟩ | exact ⟨rfl, Nat.le_of_ble_eq_true rfl⟩ | exact Nat.le_of_ble_eq_true rfl | (refine ⟨rfl, rfl, ?_⟩; simp [isFar, ofV0, CV.up, SV.renL, SV.ren] <;> fail) | (refine ⟨rfl, Nat.le_of_ble_eq_true rfl, ?_⟩; simp [isFar, ofV0, CV.up, SV.renL, SV.ren] <;> fail) | (simp <;> fail))); conv => whnf) | (refine ⟨_, rfl, ?_⟩; conv => whnf)))
      exact ⟨_, _, WeakV.drop rfl, bad (by omega)⟩
  · (conv => whnf)
    (repeat (first | (exact Out.same; conv => whnf) | (exact Out1.same; conv => whnf) | (refine QAnd.mk ?_ ?_; conv => whnf) | (apply QStepH.go; conv => whnf) | (refine Both.lit_true ?_; conv => whnf) | (refine Both.lit_false ?_; conv => whnf) | (apply QStep.go; conv => whnf) | (refine Need.mk ?_ ?_; (focus (first | omega | exact ⟨by omega, by omega⟩ | rfl | exact ⟨rfl, rfl⟩ | exact ⟨rfl, by omega, by omega⟩ | exact ⟨by omega, by omega, by omega⟩ | exact ⟨rfl, Nat.le_of_ble_eq_true rfl⟩ | exact Nat.le_of_ble_eq_true rfl | (refine ⟨rfl, rfl, ?_⟩; simp [isFar, ofV0, CV.up, SV.renL, SV.ren] <;> fail) | (refine ⟨rfl, Nat.le_of_ble_eq_true rfl, ?_⟩; simp [isFar, ofV0, CV.up, SV.renL, SV.ren] <;> fail) | (simp <;> fail))); conv => whnf) | (refine ⟨_, rfl, ?_⟩; conv => whnf)))
    exact ⟨_, _, WeakV.drop rfl, bad (by omega)⟩
theorem rnright_k : Contract Try.prog [] 20 rnrightS := ⟨⟨⟨_, rfl, rfl, rfl⟩⟩, rnright_c⟩
def irightS : Spec := fun args H Q => match args, H with
  | [.agg [.int .i64 f, .int .u64 s, .int .u64 t, .str d, .int .i64 k]], [] => Need (0 ≤ s ∧ 0 ≤ t) (Q (.bool (decide (1 ≤ k ∧ k ≤ 2) && pok f s t d)) [])
  | _, _ => False
theorem iright_c : Meets Try.prog [] 39 irightS := by
  refine meets_of Γok Try.func39 rfl ?_
  intro args H Q h
  unfold irightS at h
  split at h
  case h_2 => exact h.elim
  rename_i f s t d k
  obtain ⟨⟨hs, ht⟩, h⟩ := h
  have bad : ¬ (1 ≤ k ∧ k ≤ 2) → Q (.bool false) [] := fun h0 => by rw [decide_eq_false h0] at h; exact h
  have good : (1 ≤ k ∧ k ≤ 2) → Q (.bool (pok f s t d)) [] := fun h0 => by rw [decide_eq_true h0, Bool.true_and] at h; exact h
  (refine sx_sound Γok _ ?_; conv => whnf)
  (repeat (first | (exact Out.same; conv => whnf) | (exact Out1.same; conv => whnf) | (refine QAnd.mk ?_ ?_; conv => whnf) | (apply QStepH.go; conv => whnf) | (refine Both.lit_true ?_; conv => whnf) | (refine Both.lit_false ?_; conv => whnf) | (apply QStep.go; conv => whnf) | (refine Need.mk ?_ ?_; (focus (first | omega | exact ⟨by omega, by omega⟩ | rfl | exact ⟨rfl, rfl⟩ | exact ⟨rfl, by omega, by omega⟩ | exact ⟨by omega, by omega, by omega⟩ | exact ⟨rfl, Nat.le_of_ble_eq_true rfl⟩ | exact Nat.le_of_ble_eq_true rfl | (refine ⟨rfl, rfl, ?_⟩; simp [isFar, ofV0, CV.up, SV.renL, SV.ren] <;> fail) | (refine ⟨rfl, Nat.le_of_ble_eq_true rfl, ?_⟩; simp [isFar, ofV0, CV.up, SV.renL, SV.ren] <;> fail) | (simp <;> fail))); conv => whnf) | (refine ⟨_, rfl, ?_⟩; conv => whnf)))
  refine Both.dec (fun h1 => ?_) (fun h1 => ?_)
  · (conv => whnf)
    (repeat (first | (exact Out.same; conv => whnf) | (exact Out1.same; conv => whnf) | (refine QAnd.mk ?_ ?_; conv => whnf) | (apply QStepH.go; conv => whnf) | (refine Both.lit_true ?_; conv => whnf) | (refine Both.lit_false ?_; conv => whnf) | (apply QStep.go; conv => whnf) | (refine Need.mk ?_ ?_; (focus (first | omega | exact ⟨by omega, by omega⟩ | rfl | exact ⟨rfl, rfl⟩ | exact ⟨rfl, by omega, by omega⟩ | exact ⟨by omega, by omega, by omega⟩ | exact ⟨rfl, Nat.le_of_ble_eq_true rfl⟩ | exact Nat.le_of_ble_eq_true rfl | (refine ⟨rfl, rfl, ?_⟩; simp [isFar, ofV0, CV.up, SV.renL, SV.ren] <;> fail) | (refine ⟨rfl, Nat.le_of_ble_eq_true rfl, ?_⟩; simp [isFar, ofV0, CV.up, SV.renL, SV.ren] <;> fail) | (simp <;> fail))); conv => whnf) | (refine ⟨_, rfl, ?_⟩; conv => whnf) | (refine CallVC.auto rrightV_k ?_; conv => whnf)))
    exact ⟨_, _, WeakV.drop rfl, good (by omega)⟩
  · (conv => whnf)
    (repeat (first | (exact Out.same; conv => whnf) | (exact Out1.same; conv => whnf) | (refine QAnd.mk ?_ ?_; conv => whnf) | (apply QStepH.go; conv => whnf) | (refine Both.lit_true ?_; conv => whnf) | (refine Both.lit_false ?_; conv => whnf) | (apply QStep.go; conv => whnf) | (refine Need.mk ?_ ?_; (focus (first | omega | exact ⟨by omega, by omega⟩ | rfl | exact ⟨rfl, rfl⟩ | exact ⟨rfl, by omega, by omega⟩ | exact ⟨by omega, by omega, by omega⟩ | exact ⟨rfl, Nat.le_of_ble_eq_true rfl⟩ | exact Nat.le_of_ble_eq_true rfl | (refine ⟨rfl, rfl, ?_⟩; simp [isFar, ofV0, CV.up, SV.renL, SV.ren] <;> fail) | (refine ⟨rfl, Nat.le_of_ble_eq_true rfl, ?_⟩; simp [isFar, ofV0, CV.up, SV.renL, SV.ren] <;> fail) | (simp <;> fail))); conv => whnf) | (refine ⟨_, rfl, ?_⟩; conv => whnf)))
    refine Both.dec (fun h2 => ?_) (fun h2 => ?_)
    · (conv => whnf)
      (repeat (first | (exact Out.same; conv => whnf) | (exact Out1.same; conv => whnf) | (refine QAnd.mk ?_ ?_; conv => whnf) | (apply QStepH.go; conv => whnf) | (refine Both.lit_true ?_; conv => whnf) | (refine Both.lit_false ?_; conv => whnf) | (apply QStep.go; conv => whnf) | (refine Need.mk ?_ ?_; (focus (first | omega | exact ⟨by omega, by omega⟩ | rfl | exact ⟨rfl, rfl⟩ | exact ⟨rfl, by omega, by omega⟩ | exact ⟨by omega, by omega, by omega⟩ | exact ⟨rfl, Nat.le_of_ble_eq_true rfl⟩ | exact Nat.le_of_ble_eq_true rfl | (refine ⟨rfl, rfl, ?_⟩; simp [isFar, ofV0, CV.up, SV.renL, SV.ren] <;> fail) | (refine ⟨rfl, Nat.le_of_ble_eq_true rfl, ?_⟩; simp [isFar, ofV0, CV.up, SV.renL, SV.ren] <;> fail) | (simp <;> fail))); conv => whnf) | (refine ⟨_, rfl, ?_⟩; conv => whnf) | (refine CallVC.auto rrightV_k ?_; conv => whnf)))
      exact ⟨_, _, WeakV.drop rfl, good (by omega)⟩
    · (conv => whnf)
      (repeat (first | (exact Out.same; conv => whnf) | (exact Out1.same; conv => whnf) | (refine QAnd.mk ?_ ?_; conv => whnf) | (apply QStepH.go; conv => whnf) | (refine Both.lit_true ?_; conv => whnf) | (refine Both.lit_false ?_; conv => whnf) | (apply QStep.go; conv => whnf) | (refine Need.mk ?_ ?_; (focus (first | omega | exact ⟨by omega, by omega⟩ | rfl | exact ⟨rfl, rfl⟩ | exact ⟨rfl, by omega, by omega⟩ | exact ⟨by omega, by omega, by omega⟩ | exact ⟨rfl, Nat.le_of_ble_eq_true rfl⟩ | exact Nat.le_of_ble_eq_true rfl | (refine ⟨rfl, rfl, ?_⟩; simp [isFar, ofV0, CV.up, SV.renL, SV.ren] <;> fail) | (refine ⟨rfl, Nat.le_of_ble_eq_true rfl, ?_⟩; simp [isFar, ofV0, CV.up, SV.renL, SV.ren] <;> fail) | (simp <;> fail))); conv => whnf) | (refine ⟨_, rfl, ?_⟩; conv => whnf)))
      exact ⟨_, _, WeakV.drop rfl, bad (by omega)⟩
theorem iright_k : Contract Try.prog [] 39 irightS := ⟨⟨⟨_, rfl, rfl, rfl⟩⟩, iright_c⟩
def rbyS : Spec := fun args H Q => match args, H with
  | [.agg [.int .i64 k, .int .i64 f, .int .u64 s, .int .u64 t, .str d]], [] => Need (0 ≤ s ∧ 0 ≤ t) (Q (.int .i64 (nby k f s t d)) [])
  | _, _ => False
theorem rby_c : Meets Try.prog [] 21 rbyS := by
  refine meets_of Γok Try.func21 rfl ?_
  intro args H Q h
  unfold rbyS at h
  split at h
  case h_2 => exact h.elim
  rename_i k f s t d
  obtain ⟨⟨hs, ht⟩, h⟩ := h
  unfold nby at h
  (refine sx_sound Γok _ ?_; conv => whnf)
  (repeat (first | (exact Out.same; conv => whnf) | (exact Out1.same; conv => whnf) | (refine QAnd.mk ?_ ?_; conv => whnf) | (apply QStepH.go; conv => whnf) | (refine Both.lit_true ?_; conv => whnf) | (refine Both.lit_false ?_; conv => whnf) | (apply QStep.go; conv => whnf) | (refine Need.mk ?_ ?_; (focus (first | omega | exact ⟨by omega, by omega⟩ | rfl | exact ⟨rfl, rfl⟩ | exact ⟨rfl, by omega, by omega⟩ | exact ⟨by omega, by omega, by omega⟩ | exact ⟨rfl, Nat.le_of_ble_eq_true rfl⟩ | exact Nat.le_of_ble_eq_true rfl | (refine ⟨rfl, rfl, ?_⟩; simp [isFar, ofV0, CV.up, SV.renL, SV.ren] <;> fail) | (refine ⟨rfl, Nat.le_of_ble_eq_true rfl, ?_⟩; simp [isFar, ofV0, CV.up, SV.renL, SV.ren] <;> fail) | (simp <;> fail))); conv => whnf) | (refine ⟨_, rfl, ?_⟩; conv => whnf) | (refine CallVC.auto rnright_k ?_; conv => whnf)))
  refine Both.cases (fun hn => ?_) (fun hn => ?_)
  · have hn : nok k f s t d = false := by simpa using hn
    rw [hn] at h
    (conv => whnf)
    (repeat (first | (exact Out.same; conv => whnf) | (exact Out1.same; conv => whnf) | (refine QAnd.mk ?_ ?_; conv => whnf) | (apply QStepH.go; conv => whnf) | (refine Both.lit_true ?_; conv => whnf) | (refine Both.lit_false ?_; conv => whnf) | (apply QStep.go; conv => whnf) | (refine Need.mk ?_ ?_; (focus (first | omega | exact ⟨by omega, by omega⟩ | rfl | exact ⟨rfl, rfl⟩ | exact ⟨rfl, by omega, by omega⟩ | exact ⟨by omega, by omega, by omega⟩ | exact ⟨rfl, Nat.le_of_ble_eq_true rfl⟩ | exact Nat.le_of_ble_eq_true rfl | (refine ⟨rfl, rfl, ?_⟩; simp [isFar, ofV0, CV.up, SV.renL, SV.ren] <;> fail) | (refine ⟨rfl, Nat.le_of_ble_eq_true rfl, ?_⟩; simp [isFar, ofV0, CV.up, SV.renL, SV.ren] <;> fail) | (simp <;> fail))); conv => whnf) | (refine ⟨_, rfl, ?_⟩; conv => whnf)))
    exact ⟨_, _, WeakV.drop rfl, h⟩
  · have hn : nok k f s t d = true := by simpa using hn
    have hf : 0 ≤ f ∧ f ≤ 1 := by
      simp [nok, pok] at hn
      omega
    rw [hn, if_pos rfl] at h
    (conv => whnf)
    (repeat (first | (exact Out.same; conv => whnf) | (exact Out1.same; conv => whnf) | (refine QAnd.mk ?_ ?_; conv => whnf) | (apply QStepH.go; conv => whnf) | (refine Both.lit_true ?_; conv => whnf) | (refine Both.lit_false ?_; conv => whnf) | (apply QStep.go; conv => whnf) | (refine Need.mk ?_ ?_; (focus (first | omega | exact ⟨by omega, by omega⟩ | rfl | exact ⟨rfl, rfl⟩ | exact ⟨rfl, by omega, by omega⟩ | exact ⟨by omega, by omega, by omega⟩ | exact ⟨rfl, Nat.le_of_ble_eq_true rfl⟩ | exact Nat.le_of_ble_eq_true rfl | (refine ⟨rfl, rfl, ?_⟩; simp [isFar, ofV0, CV.up, SV.renL, SV.ren] <;> fail) | (refine ⟨rfl, Nat.le_of_ble_eq_true rfl, ?_⟩; simp [isFar, ofV0, CV.up, SV.renL, SV.ren] <;> fail) | (simp <;> fail))); conv => whnf) | (refine ⟨_, rfl, ?_⟩; conv => whnf)))
    refine Both.dec (fun h1 => ?_) (fun h1 => ?_)
    · rw [if_pos h1] at h
      (conv => whnf)
      (repeat (first | (exact Out.same; conv => whnf) | (exact Out1.same; conv => whnf) | (refine QAnd.mk ?_ ?_; conv => whnf) | (apply QStepH.go; conv => whnf) | (refine Both.lit_true ?_; conv => whnf) | (refine Both.lit_false ?_; conv => whnf) | (apply QStep.go; conv => whnf) | (refine Need.mk ?_ ?_; (focus (first | omega | exact ⟨by omega, by omega⟩ | rfl | exact ⟨rfl, rfl⟩ | exact ⟨rfl, by omega, by omega⟩ | exact ⟨by omega, by omega, by omega⟩ | exact ⟨rfl, Nat.le_of_ble_eq_true rfl⟩ | exact Nat.le_of_ble_eq_true rfl | (refine ⟨rfl, rfl, ?_⟩; simp [isFar, ofV0, CV.up, SV.renL, SV.ren] <;> fail) | (refine ⟨rfl, Nat.le_of_ble_eq_true rfl, ?_⟩; simp [isFar, ofV0, CV.up, SV.renL, SV.ren] <;> fail) | (simp <;> fail))); conv => whnf) | (refine ⟨_, rfl, ?_⟩; conv => whnf)))
      refine ⟨_, _, WeakV.drop (congrArg (SV.int .i64) ?_), h⟩
      exact wrap_i64 (by omega) (by omega)
    · rw [if_neg h1] at h
      (conv => whnf)
      (repeat (first | (exact Out.same; conv => whnf) | (exact Out1.same; conv => whnf) | (refine QAnd.mk ?_ ?_; conv => whnf) | (apply QStepH.go; conv => whnf) | (refine Both.lit_true ?_; conv => whnf) | (refine Both.lit_false ?_; conv => whnf) | (apply QStep.go; conv => whnf) | (refine Need.mk ?_ ?_; (focus (first | omega | exact ⟨by omega, by omega⟩ | rfl | exact ⟨rfl, rfl⟩ | exact ⟨rfl, by omega, by omega⟩ | exact ⟨by omega, by omega, by omega⟩ | exact ⟨rfl, Nat.le_of_ble_eq_true rfl⟩ | exact Nat.le_of_ble_eq_true rfl | (refine ⟨rfl, rfl, ?_⟩; simp [isFar, ofV0, CV.up, SV.renL, SV.ren] <;> fail) | (refine ⟨rfl, Nat.le_of_ble_eq_true rfl, ?_⟩; simp [isFar, ofV0, CV.up, SV.renL, SV.ren] <;> fail) | (simp <;> fail))); conv => whnf) | (refine ⟨_, rfl, ?_⟩; conv => whnf)))
      exact ⟨_, _, WeakV.drop rfl, h⟩
theorem rby_k : Contract Try.prog [] 21 rbyS := ⟨⟨⟨_, rfl, rfl, rfl⟩⟩, rby_c⟩
def rplS : Spec := fun args H Q => match args, H with
  | [.agg [.int .u64 hg, .int .i64 ix]], [] => Need (0 ≤ hg ∧ hg < 18446744073709551616) (∀ e' s', e' = (if plok ix then 0 else 1) → s' = (if plok ix then plB hg ix else []) → Q (.tuple [.str s', .int .i64 e']) [])
  | _, _ => False
theorem rpl_c : Meets Try.prog [] 19 rplS := by
  refine meets_of Γok Try.func19 rfl ?_
  intro args H Q h
  unfold rplS at h
  split at h
  case h_2 => exact h.elim
  rename_i hg ix
  obtain ⟨hh, h⟩ := h
  have bad : ¬ (0 ≤ ix ∧ ix ≤ 65535) → Q (.tuple [.str [], .int .i64 1]) [] := fun h0 => by
    have := decide_eq_false h0
    exact h 1 [] (by rw [plok, this]; rfl) (by rw [plok, this]; rfl)
  (refine sx_sound Γok _ ?_; conv => whnf)
  (repeat (first | (exact Out.same; conv => whnf) | (exact Out1.same; conv => whnf) | (refine QAnd.mk ?_ ?_; conv => whnf) | (apply QStepH.go; conv => whnf) | (refine Both.lit_true ?_; conv => whnf) | (refine Both.lit_false ?_; conv => whnf) | (apply QStep.go; conv => whnf) | (refine Need.mk ?_ ?_; (focus (first | omega | exact ⟨by omega, by omega⟩ | rfl | exact ⟨rfl, rfl⟩ | exact ⟨rfl, by omega, by omega⟩ | exact ⟨by omega, by omega, by omega⟩ | exact ⟨rfl, Nat.le_of_ble_eq_true rfl⟩ | exact Nat.le_of_ble_eq_true rfl | (refine ⟨rfl, rfl, ?_⟩; simp [isFar, ofV0, CV.up, SV.renL, SV.ren] <;> fail) | (refine ⟨rfl, Nat.le_of_ble_eq_true rfl, ?_⟩; simp [isFar, ofV0, CV.up, SV.renL, SV.ren] <;> fail) | (simp <;> fail))); conv => whnf) | (refine ⟨_, rfl, ?_⟩; conv => whnf)))
  refine Both.dec (fun h1 => ?_) (fun h1 => ?_)
  · (conv => whnf)
    (repeat (first | (exact Out.same; conv => whnf) | (exact Out1.same; conv => whnf) | (refine QAnd.mk ?_ ?_; conv => whnf) | (apply QStepH.go; conv => whnf) | (refine Both.lit_true ?_; conv => whnf) | (refine Both.lit_false ?_; conv => whnf) | (apply QStep.go; conv => whnf) | (refine Need.mk ?_ ?_; (focus (first | omega | exact ⟨by omega, by omega⟩ | rfl | exact ⟨rfl, rfl⟩ | exact ⟨rfl, by omega, by omega⟩ | exact ⟨by omega, by omega, by omega⟩ | exact ⟨rfl, Nat.le_of_ble_eq_true rfl⟩ | exact Nat.le_of_ble_eq_true rfl | (refine ⟨rfl, rfl, ?_⟩; simp [isFar, ofV0, CV.up, SV.renL, SV.ren] <;> fail) | (refine ⟨rfl, Nat.le_of_ble_eq_true rfl, ?_⟩; simp [isFar, ofV0, CV.up, SV.renL, SV.ren] <;> fail) | (simp <;> fail))); conv => whnf) | (refine ⟨_, rfl, ?_⟩; conv => whnf)))
    exact ⟨_, _, WeakV.drop rfl, bad (by omega)⟩
  (conv => whnf)
  (repeat (first | (exact Out.same; conv => whnf) | (exact Out1.same; conv => whnf) | (refine QAnd.mk ?_ ?_; conv => whnf) | (apply QStepH.go; conv => whnf) | (refine Both.lit_true ?_; conv => whnf) | (refine Both.lit_false ?_; conv => whnf) | (apply QStep.go; conv => whnf) | (refine Need.mk ?_ ?_; (focus (first | omega | exact ⟨by omega, by omega⟩ | rfl | exact ⟨rfl, rfl⟩ | exact ⟨rfl, by omega, by omega⟩ | exact ⟨by omega, by omega, by omega⟩ | exact ⟨rfl, Nat.le_of_ble_eq_true rfl⟩ | exact Nat.le_of_ble_eq_true rfl | (refine ⟨rfl, rfl, ?_⟩; simp [isFar, ofV0, CV.up, SV.renL, SV.ren] <;> fail) | (refine ⟨rfl, Nat.le_of_ble_eq_true rfl, ?_⟩; simp [isFar, ofV0, CV.up, SV.renL, SV.ren] <;> fail) | (simp <;> fail))); conv => whnf) | (refine ⟨_, rfl, ?_⟩; conv => whnf)))
  refine Both.dec (fun h2 => ?_) (fun h2 => ?_)
  · (conv => whnf)
    (repeat (first | (exact Out.same; conv => whnf) | (exact Out1.same; conv => whnf) | (refine QAnd.mk ?_ ?_; conv => whnf) | (apply QStepH.go; conv => whnf) | (refine Both.lit_true ?_; conv => whnf) | (refine Both.lit_false ?_; conv => whnf) | (apply QStep.go; conv => whnf) | (refine Need.mk ?_ ?_; (focus (first | omega | exact ⟨by omega, by omega⟩ | rfl | exact ⟨rfl, rfl⟩ | exact ⟨rfl, by omega, by omega⟩ | exact ⟨by omega, by omega, by omega⟩ | exact ⟨rfl, Nat.le_of_ble_eq_true rfl⟩ | exact Nat.le_of_ble_eq_true rfl | (refine ⟨rfl, rfl, ?_⟩; simp [isFar, ofV0, CV.up, SV.renL, SV.ren] <;> fail) | (refine ⟨rfl, Nat.le_of_ble_eq_true rfl, ?_⟩; simp [isFar, ofV0, CV.up, SV.renL, SV.ren] <;> fail) | (simp <;> fail))); conv => whnf) | (refine ⟨_, rfl, ?_⟩; conv => whnf)))
    exact ⟨_, _, WeakV.drop rfl, bad (by omega)⟩
  have hgd : plok ix = true := decide_eq_true ⟨by omega, by omega⟩
  have hw : IntKind.u64.wrap ix = (ix.toNat : Int) := by rw [wrap_u64 (by omega) (by omega)]; omega
  (conv => whnf)
  (repeat (first | (exact Out.same; conv => whnf) | (exact Out1.same; conv => whnf) | (refine QAnd.mk ?_ ?_; conv => whnf) | (apply QStepH.go; conv => whnf) | (refine Both.lit_true ?_; conv => whnf) | (refine Both.lit_false ?_; conv => whnf) | (apply QStep.go; conv => whnf) | (refine Need.mk ?_ ?_; (focus (first | omega | exact ⟨by omega, by omega⟩ | rfl | exact ⟨rfl, rfl⟩ | exact ⟨rfl, by omega, by omega⟩ | exact ⟨by omega, by omega, by omega⟩ | exact ⟨rfl, Nat.le_of_ble_eq_true rfl⟩ | exact Nat.le_of_ble_eq_true rfl | (refine ⟨rfl, rfl, ?_⟩; simp [isFar, ofV0, CV.up, SV.renL, SV.ren] <;> fail) | (refine ⟨rfl, Nat.le_of_ble_eq_true rfl, ?_⟩; simp [isFar, ofV0, CV.up, SV.renL, SV.ren] <;> fail) | (simp <;> fail))); conv => whnf) | (refine ⟨_, rfl, ?_⟩; conv => whnf)))
  (refine DrawVC.any Γok (by kernel_rfl) (by kernel_rfl) (by kernel_rfl) (by rfl) ?_; conv => whnf)
  (repeat (first | (refine CallVC.auto rb_k ⟨hg.toNat, 8, by omega, by omega, rfl, by omega, ?_⟩; conv => whnf) | (refine CallVC.auto rb_k ⟨ix.toNat, 8, hw, by omega, rfl, by omega, ?_⟩; conv => whnf) | (refine Need.mk (by simp only [beb_length, List.length_append]; omega) ?_; conv => whnf) | (exact Out.same; conv => whnf) | (exact Out1.same; conv => whnf) | (refine QAnd.mk ?_ ?_; conv => whnf) | (apply QStepH.go; conv => whnf) | (refine Both.lit_true ?_; conv => whnf) | (refine Both.lit_false ?_; conv => whnf) | (apply QStep.go; conv => whnf) | (refine Need.mk ?_ ?_; (focus (first | omega | exact ⟨by omega, by omega⟩ | rfl | exact ⟨rfl, rfl⟩ | exact ⟨rfl, by omega, by omega⟩ | exact ⟨by omega, by omega, by omega⟩ | exact ⟨rfl, Nat.le_of_ble_eq_true rfl⟩ | exact Nat.le_of_ble_eq_true rfl | (refine ⟨rfl, rfl, ?_⟩; simp [isFar, ofV0, CV.up, SV.renL, SV.ren] <;> fail) | (refine ⟨rfl, Nat.le_of_ble_eq_true rfl, ?_⟩; simp [isFar, ofV0, CV.up, SV.renL, SV.ren] <;> fail) | (simp <;> fail))); conv => whnf) | (refine ⟨_, rfl, ?_⟩; conv => whnf)))
  refine ⟨_, _, WeakV.drop rfl, h 0 (plB hg ix) (by rw [hgd]; rfl) (by rw [hgd]; rfl)⟩
theorem rpl_k : Contract Try.prog [] 19 rplS := ⟨⟨⟨_, rfl, rfl, rfl⟩⟩, rpl_c⟩

def rlNoteS : Spec := fun args H Q => match args, H with
  | [.sl 5 n cs b], [] => ∃ l : List Row, n = l.length ∧ cs = l.flatMap Row.enN ∧ l.length ≤ 300 ∧
    ∀ e' s', e' = (if goodR 4 l then 0 else 1) → s' = (if goodR 4 l then outR l else []) → Q (.tuple [.str s', .int .i64 e']) []
  | _, _ => False
theorem rlNote_c : Meets Try.prog [] 13 rlNoteS := by
  refine meets_of Γok Try.func13 rfl ?_
  intro args H Q h
  unfold rlNoteS at h
  split at h
  case h_2 => exact h.elim
  rename_i n cs b
  obtain ⟨l, rfl, rfl, hlen, h⟩ := h
  have bad : goodR 4 l = false → Q (.tuple [.str [], .int .i64 1]) [] := fun h0 => h 1 [] (by rw [h0]; rfl) (by rw [h0]; rfl)
  (refine sx_sound Γok _ ?_; conv => whnf)
  refine Both.dec (fun h1 => ?_) (fun h1 => ?_)
  · (conv => whnf)
    exact ⟨_, _, WeakV.drop rfl, bad (by rw [goodR, decide_eq_false (by omega)]; rfl)⟩
  (conv => whnf)
  have hw : IntKind.u64.wrap (l.length : Int) = ((l.length : Nat) : Int) := wrap_u64 (by omega) (by omega)
  refine CallVC.auto rb_k ⟨l.length, 1, hw, by omega, rfl, by omega, ?_⟩
  (conv => whnf)
  have hbl : ∀ k, k ≤ l.length → ((l.take k).flatMap Row.bytes).length ≤ 84 * k ∨ ¬ (l.take k).all (Row.good 4) = true := by
    intro k
    induction k with
    | zero => intro _; left; simp
    | succ k ih =>
      intro hk
      rcases ih (by omega) with h2 | h2
      · by_cases hg : l[k].good 4 = true
        · left
          rw [List.take_succ_eq_append_getElem (by omega), List.flatMap_append, List.length_append]
          have : (List.flatMap Row.bytes [l[k]]).length ≤ 84 := by
            simp [Row.bytes, pbytes_len]
            simp [Row.good, Row.pk, pok] at hg
            omega
          omega
        · right
          rw [List.take_succ_eq_append_getElem (by omega), List.all_append]
          simp [hg]
      · right
        rw [List.take_succ_eq_append_getElem (by omega), List.all_append]
        simp only [Bool.and_eq_true]
        exact fun h3 => h2 h3.1
  refine loop_rule (fun k : Nat => ⟨[.sl 5 l.length (l.flatMap Row.enN) b, .any, .any, .any, .str (UInt8.ofNat l.length :: (l.take k).flatMap Row.bytes), .int .i64 (k : Int), .any, .any, .any, .any, .any, .any, .any, .any, .any, .any, .any, .any, .any, .any, .any, .any, .any, .any, .any, .any, .any, .any, .any, .any, .any, .any, .any, .any, .any, .any, .any, .any, .any, .any, .any, .any], []⟩) (fun k => k ≤ l.length ∧ (l.take k).all (Row.good 4) = true) (fun k => l.length - k) 0 ⟨by omega, by simp⟩ (Weak.auto ?_) ?_
  · (repeat' ((conv => whnf); first | exact True.intro | (refine And.intro ?_ ?_)))
    all_goals first | rfl | (refine congrArg SV.str ?_; simp [beb])
  · rintro k ⟨hk, hall⟩
    have hb2 := (hbl k hk).resolve_right (fun h0 => h0 hall)
    (refine sx_sound Γok _ ?_; conv => whnf)
    refine Both.dec (fun hlt => ?_) (fun hge => ?_)
    · have hkl : k < l.length := by omega
      have hr := rows_row (en := Row.enN) (fun _ => rfl) l k hkl
      have htk : (l.take (k + 1)).flatMap Row.bytes = (l.take k).flatMap Row.bytes ++ l[k].bytes := by
        rw [List.take_succ_eq_append_getElem hkl, List.flatMap_append]
        simp
      have hta : (l.take (k + 1)).all (Row.good 4) = l[k].good 4 := by
        rw [List.take_succ_eq_append_getElem hkl, List.all_append, hall]
        simp
      have hlb : l[k].good 4 = false → goodR 4 l = false := by
        intro h0
        cases hgr : goodR 4 l
        · rfl
        · rw [goodR, Bool.and_eq_true, List.all_eq_true] at hgr
          have := hgr.2 _ (List.getElem_mem hkl)
          rw [h0] at this
          cases this
      generalize hcc : l[k] = c at hr htk hta hlb
      have us := u64_rng c.p.s
      have ut := u64_rng c.p.t
      (conv => whnf)
      (repeat (first | (refine ⟨_, hr, ?_⟩; conv => whnf) | (exact Out.same; conv => whnf) | (exact Out1.same; conv => whnf) | (refine QAnd.mk ?_ ?_; conv => whnf) | (apply QStepH.go; conv => whnf) | (refine Both.lit_true ?_; conv => whnf) | (refine Both.lit_false ?_; conv => whnf) | (apply QStep.go; conv => whnf) | (refine Need.mk ?_ ?_; (focus (first | omega | exact ⟨by omega, by omega⟩ | rfl | exact ⟨rfl, rfl⟩ | exact ⟨rfl, by omega, by omega⟩ | exact ⟨by omega, by omega, by omega⟩ | exact ⟨rfl, Nat.le_of_ble_eq_true rfl⟩ | exact Nat.le_of_ble_eq_true rfl | (refine ⟨rfl, rfl, ?_⟩; simp [isFar, ofV0, CV.up, SV.renL, SV.ren] <;> fail) | (refine ⟨rfl, Nat.le_of_ble_eq_true rfl, ?_⟩; simp [isFar, ofV0, CV.up, SV.renL, SV.ren] <;> fail) | (simp <;> fail))); conv => whnf) | (refine ⟨_, rfl, ?_⟩; conv => whnf)))
      refine CallVC.auto rnright_k (Need.mk ⟨us.1, ut.1⟩ ?_)
      (conv => whnf)
      refine Both.cases (fun hn => ?_) (fun hn => ?_)
      · have hn : c.good 4 = false := by
          rw [Bool.not_eq_true'] at hn
          exact hn
        (conv => whnf)
        (repeat (first | (exact Out.same; conv => whnf) | (exact Out1.same; conv => whnf) | (refine QAnd.mk ?_ ?_; conv => whnf) | (apply QStepH.go; conv => whnf) | (refine Both.lit_true ?_; conv => whnf) | (refine Both.lit_false ?_; conv => whnf) | (apply QStep.go; conv => whnf) | (refine Need.mk ?_ ?_; (focus (first | omega | exact ⟨by omega, by omega⟩ | rfl | exact ⟨rfl, rfl⟩ | exact ⟨rfl, by omega, by omega⟩ | exact ⟨by omega, by omega, by omega⟩ | exact ⟨rfl, Nat.le_of_ble_eq_true rfl⟩ | exact Nat.le_of_ble_eq_true rfl | (refine ⟨rfl, rfl, ?_⟩; simp [isFar, ofV0, CV.up, SV.renL, SV.ren] <;> fail) | (refine ⟨rfl, Nat.le_of_ble_eq_true rfl, ?_⟩; simp [isFar, ofV0, CV.up, SV.renL, SV.ren] <;> fail) | (simp <;> fail))); conv => whnf) | (refine ⟨_, rfl, ?_⟩; conv => whnf)))
        exact ⟨_, _, WeakV.drop rfl, bad (hlb hn)⟩
      · have hn : c.good 4 = true := by
          rw [Bool.not_eq_false'] at hn
          exact hn
        have hpk : pok c.p.f (u64 c.p.s) (u64 c.p.t) c.p.d = true := by
          rw [Row.good, Bool.and_eq_true] at hn
          exact hn.2
        have hkk : 1 ≤ c.k ∧ c.k ≤ 4 := by
          rw [Row.good, Bool.and_eq_true, Row.kok] at hn
          exact of_decide_eq_true hn.1
        have hdl : c.p.d.length ≤ 64 := by
          simp [pok] at hpk
          omega
        have hwk : IntKind.u64.wrap c.k = (c.k.toNat : Int) := by rw [wrap_u64 (by omega) (by omega)]; omega
        have hpl := pbytes_len c.p.f (u64 c.p.s) (u64 c.p.t) c.p.d
        (conv => whnf)
        (refine DrawVC.any Γok (by kernel_rfl) (by kernel_rfl) (by kernel_rfl) (by rfl) ?_; conv => whnf)
        (repeat (first | (refine ⟨_, hr, ?_⟩; conv => whnf) | (refine CallVC.auto rb_k ⟨c.k.toNat, 1, hwk, by omega, rfl, by omega, ?_⟩; conv => whnf) | (refine CallVC.auto rpb_k (Need.mk ⟨hpk, us.2, ut.2, us.1, ut.1⟩ ?_); conv => whnf) | (refine Need.mk (by simp only [beb_length, List.length_append, List.length_cons, hpl]; omega) ?_; conv => whnf) | (exact Out.same; conv => whnf) | (exact Out1.same; conv => whnf) | (refine QAnd.mk ?_ ?_; conv => whnf) | (apply QStepH.go; conv => whnf) | (refine Both.lit_true ?_; conv => whnf) | (refine Both.lit_false ?_; conv => whnf) | (apply QStep.go; conv => whnf) | (refine Need.mk ?_ ?_; (focus (first | omega | exact ⟨by omega, by omega⟩ | rfl | exact ⟨rfl, rfl⟩ | exact ⟨rfl, by omega, by omega⟩ | exact ⟨by omega, by omega, by omega⟩ | exact ⟨rfl, Nat.le_of_ble_eq_true rfl⟩ | exact Nat.le_of_ble_eq_true rfl | (refine ⟨rfl, rfl, ?_⟩; simp [isFar, ofV0, CV.up, SV.renL, SV.ren] <;> fail) | (refine ⟨rfl, Nat.le_of_ble_eq_true rfl, ?_⟩; simp [isFar, ofV0, CV.up, SV.renL, SV.ren] <;> fail) | (simp <;> fail))); conv => whnf) | (refine ⟨_, rfl, ?_⟩; conv => whnf)))
        refine ⟨k + 1, ⟨by omega, by rw [hta]; exact hn⟩, by omega, Weak.auto ?_⟩
        (repeat' ((conv => whnf); first | exact True.intro | (refine And.intro ?_ ?_)))
        all_goals first | rfl | exact congrArg (SV.int .i64) (by rw [wrap_i64 (by omega) (by omega)]; rfl) | (refine congrArg SV.str ?_; rw [htk, Row.bytes]; simp [beb])
    · obtain rfl : k = l.length := by omega
      rw [List.take_length] at hall
      have hgr : goodR 4 l = true := by rw [goodR, hall, decide_eq_true (by omega)]; rfl
      (conv => whnf)
      rw [List.take_length]
      exact ⟨_, _, WeakV.drop rfl, h 0 (outR l) (by rw [hgr]; rfl) (by rw [hgr]; rfl)⟩
theorem rlNote_k : Contract Try.prog [] 13 rlNoteS := ⟨⟨⟨_, rfl, rfl, rfl⟩⟩, rlNote_c⟩

def rlItemS : Spec := fun args H Q => match args, H with
  | [.sl 5 n cs b], [] => ∃ l : List Row, n = l.length ∧ cs = l.flatMap Row.enI ∧ l.length ≤ 300 ∧
    ∀ e' s', e' = (if goodR 2 l then 0 else 1) → s' = (if goodR 2 l then outR l else []) → Q (.tuple [.str s', .int .i64 e']) []
  | _, _ => False
theorem rlItem_c : Meets Try.prog [] 16 rlItemS := by
  refine meets_of Γok Try.func16 rfl ?_
  intro args H Q h
  unfold rlItemS at h
  split at h
  case h_2 => exact h.elim
  rename_i n cs b
  obtain ⟨l, rfl, rfl, hlen, h⟩ := h
  have bad : goodR 2 l = false → Q (.tuple [.str [], .int .i64 1]) [] := fun h0 => h 1 [] (by rw [h0]; rfl) (by rw [h0]; rfl)
  (refine sx_sound Γok _ ?_; conv => whnf)
  refine Both.dec (fun h1 => ?_) (fun h1 => ?_)
  · (conv => whnf)
    exact ⟨_, _, WeakV.drop rfl, bad (by rw [goodR, decide_eq_false (by omega)]; rfl)⟩
  (conv => whnf)
  have hw : IntKind.u64.wrap (l.length : Int) = ((l.length : Nat) : Int) := wrap_u64 (by omega) (by omega)
  refine CallVC.auto rb_k ⟨l.length, 1, hw, by omega, rfl, by omega, ?_⟩
  (conv => whnf)
  have hbl : ∀ k, k ≤ l.length → ((l.take k).flatMap Row.bytes).length ≤ 84 * k ∨ ¬ (l.take k).all (Row.good 2) = true := by
    intro k
    induction k with
    | zero => intro _; left; simp
    | succ k ih =>
      intro hk
      rcases ih (by omega) with h2 | h2
      · by_cases hg : l[k].good 2 = true
        · left
          rw [List.take_succ_eq_append_getElem (by omega), List.flatMap_append, List.length_append]
          have : (List.flatMap Row.bytes [l[k]]).length ≤ 84 := by
            simp [Row.bytes, pbytes_len]
            simp [Row.good, Row.pk, pok] at hg
            omega
          omega
        · right
          rw [List.take_succ_eq_append_getElem (by omega), List.all_append]
          simp [hg]
      · right
        rw [List.take_succ_eq_append_getElem (by omega), List.all_append]
        simp only [Bool.and_eq_true]
        exact fun h3 => h2 h3.1
  refine loop_rule (fun k : Nat => ⟨[.sl 5 l.length (l.flatMap Row.enI) b, .any, .any, .any, .str (UInt8.ofNat l.length :: (l.take k).flatMap Row.bytes), .int .i64 (k : Int), .any, .any, .any, .any, .any, .any, .any, .any, .any, .any, .any, .any, .any, .any, .any, .any, .any, .any, .any, .any, .any, .any, .any, .any, .any, .any, .any, .any, .any, .any, .any, .any, .any, .any, .any, .any], []⟩) (fun k => k ≤ l.length ∧ (l.take k).all (Row.good 2) = true) (fun k => l.length - k) 0 ⟨by omega, by simp⟩ (Weak.auto ?_) ?_
  · (repeat' ((conv => whnf); first | exact True.intro | (refine And.intro ?_ ?_)))
    all_goals first | rfl | (refine congrArg SV.str ?_; simp [beb])
  · rintro k ⟨hk, hall⟩
    have hb2 := (hbl k hk).resolve_right (fun h0 => h0 hall)
    (refine sx_sound Γok _ ?_; conv => whnf)
    refine Both.dec (fun hlt => ?_) (fun hge => ?_)
    · have hkl : k < l.length := by omega
      have hr := rows_row (en := Row.enI) (fun _ => rfl) l k hkl
      have htk : (l.take (k + 1)).flatMap Row.bytes = (l.take k).flatMap Row.bytes ++ l[k].bytes := by
        rw [List.take_succ_eq_append_getElem hkl, List.flatMap_append]
        simp
      have hta : (l.take (k + 1)).all (Row.good 2) = l[k].good 2 := by
        rw [List.take_succ_eq_append_getElem hkl, List.all_append, hall]
        simp
      have hlb : l[k].good 2 = false → goodR 2 l = false := by
        intro h0
        cases hgr : goodR 2 l
        · rfl
        · rw [goodR, Bool.and_eq_true, List.all_eq_true] at hgr
          have := hgr.2 _ (List.getElem_mem hkl)
          rw [h0] at this
          cases this
      generalize hcc : l[k] = c at hr htk hta hlb
      have us := u64_rng c.p.s
      have ut := u64_rng c.p.t
      (conv => whnf)
      (repeat (first | (refine ⟨_, hr, ?_⟩; conv => whnf) | (exact Out.same; conv => whnf) | (exact Out1.same; conv => whnf) | (refine QAnd.mk ?_ ?_; conv => whnf) | (apply QStepH.go; conv => whnf) | (refine Both.lit_true ?_; conv => whnf) | (refine Both.lit_false ?_; conv => whnf) | (apply QStep.go; conv => whnf) | (refine Need.mk ?_ ?_; (focus (first | omega | exact ⟨by omega, by omega⟩ | rfl | exact ⟨rfl, rfl⟩ | exact ⟨rfl, by omega, by omega⟩ | exact ⟨by omega, by omega, by omega⟩ | exact ⟨rfl, Nat.le_of_ble_eq_true rfl⟩ | exact Nat.le_of_ble_eq_true rfl | (refine ⟨rfl, rfl, ?_⟩; simp [isFar, ofV0, CV.up, SV.renL, SV.ren] <;> fail) | (refine ⟨rfl, Nat.le_of_ble_eq_true rfl, ?_⟩; simp [isFar, ofV0, CV.up, SV.renL, SV.ren] <;> fail) | (simp <;> fail))); conv => whnf) | (refine ⟨_, rfl, ?_⟩; conv => whnf)))
      refine CallVC.auto iright_k (Need.mk ⟨us.1, ut.1⟩ ?_)
      (conv => whnf)
      refine Both.cases (fun hn => ?_) (fun hn => ?_)
      · have hn : c.good 2 = false := by
          rw [Bool.not_eq_true'] at hn
          exact hn
        (conv => whnf)
        (repeat (first | (exact Out.same; conv => whnf) | (exact Out1.same; conv => whnf) | (refine QAnd.mk ?_ ?_; conv => whnf) | (apply QStepH.go; conv => whnf) | (refine Both.lit_true ?_; conv => whnf) | (refine Both.lit_false ?_; conv => whnf) | (apply QStep.go; conv => whnf) | (refine Need.mk ?_ ?_; (focus (first | omega | exact ⟨by omega, by omega⟩ | rfl | exact ⟨rfl, rfl⟩ | exact ⟨rfl, by omega, by omega⟩ | exact ⟨by omega, by omega, by omega⟩ | exact ⟨rfl, Nat.le_of_ble_eq_true rfl⟩ | exact Nat.le_of_ble_eq_true rfl | (refine ⟨rfl, rfl, ?_⟩; simp [isFar, ofV0, CV.up, SV.renL, SV.ren] <;> fail) | (refine ⟨rfl, Nat.le_of_ble_eq_true rfl, ?_⟩; simp [isFar, ofV0, CV.up, SV.renL, SV.ren] <;> fail) | (simp <;> fail))); conv => whnf) | (refine ⟨_, rfl, ?_⟩; conv => whnf)))
        exact ⟨_, _, WeakV.drop rfl, bad (hlb hn)⟩
      · have hn : c.good 2 = true := by
          rw [Bool.not_eq_false'] at hn
          exact hn
        have hpk : pok c.p.f (u64 c.p.s) (u64 c.p.t) c.p.d = true := by
          rw [Row.good, Bool.and_eq_true] at hn
          exact hn.2
        have hkk : 1 ≤ c.k ∧ c.k ≤ 2 := by
          rw [Row.good, Bool.and_eq_true, Row.kok] at hn
          exact of_decide_eq_true hn.1
        have hdl : c.p.d.length ≤ 64 := by
          simp [pok] at hpk
          omega
        have hwk : IntKind.u64.wrap c.k = (c.k.toNat : Int) := by rw [wrap_u64 (by omega) (by omega)]; omega
        have hpl := pbytes_len c.p.f (u64 c.p.s) (u64 c.p.t) c.p.d
        (conv => whnf)
        (refine DrawVC.any Γok (by kernel_rfl) (by kernel_rfl) (by kernel_rfl) (by rfl) ?_; conv => whnf)
        (repeat (first | (refine ⟨_, hr, ?_⟩; conv => whnf) | (refine CallVC.auto rb_k ⟨c.k.toNat, 1, hwk, by omega, rfl, by omega, ?_⟩; conv => whnf) | (refine CallVC.auto rpb_k (Need.mk ⟨hpk, us.2, ut.2, us.1, ut.1⟩ ?_); conv => whnf) | (refine Need.mk (by simp only [beb_length, List.length_append, List.length_cons, hpl]; omega) ?_; conv => whnf) | (exact Out.same; conv => whnf) | (exact Out1.same; conv => whnf) | (refine QAnd.mk ?_ ?_; conv => whnf) | (apply QStepH.go; conv => whnf) | (refine Both.lit_true ?_; conv => whnf) | (refine Both.lit_false ?_; conv => whnf) | (apply QStep.go; conv => whnf) | (refine Need.mk ?_ ?_; (focus (first | omega | exact ⟨by omega, by omega⟩ | rfl | exact ⟨rfl, rfl⟩ | exact ⟨rfl, by omega, by omega⟩ | exact ⟨by omega, by omega, by omega⟩ | exact ⟨rfl, Nat.le_of_ble_eq_true rfl⟩ | exact Nat.le_of_ble_eq_true rfl | (refine ⟨rfl, rfl, ?_⟩; simp [isFar, ofV0, CV.up, SV.renL, SV.ren] <;> fail) | (refine ⟨rfl, Nat.le_of_ble_eq_true rfl, ?_⟩; simp [isFar, ofV0, CV.up, SV.renL, SV.ren] <;> fail) | (simp <;> fail))); conv => whnf) | (refine ⟨_, rfl, ?_⟩; conv => whnf)))
        refine ⟨k + 1, ⟨by omega, by rw [hta]; exact hn⟩, by omega, Weak.auto ?_⟩
        (repeat' ((conv => whnf); first | exact True.intro | (refine And.intro ?_ ?_)))
        all_goals first | rfl | exact congrArg (SV.int .i64) (by rw [wrap_i64 (by omega) (by omega)]; rfl) | (refine congrArg SV.str ?_; rw [htk, Row.bytes]; simp [beb])
    · obtain rfl : k = l.length := by omega
      rw [List.take_length] at hall
      have hgr : goodR 2 l = true := by rw [goodR, hall, decide_eq_true (by omega)]; rfl
      (conv => whnf)
      rw [List.take_length]
      exact ⟨_, _, WeakV.drop rfl, h 0 (outR l) (by rw [hgr]; rfl) (by rw [hgr]; rfl)⟩
theorem rlItem_k : Contract Try.prog [] 16 rlItemS := ⟨⟨⟨_, rfl, rfl, rfl⟩⟩, rlItem_c⟩
end Go.LX
