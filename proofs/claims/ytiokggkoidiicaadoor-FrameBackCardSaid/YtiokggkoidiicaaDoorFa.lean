import Derived.Test.YtiokggkoidiicaaDoorFm
set_option maxRecDepth 100000
set_option maxHeartbeats 1000000
set_option autoImplicit false
set_option linter.unusedVariables false
set_option linter.unusedSimpArgs false
namespace Go.LX
open Go.Proofs

/-! ## How many parts -/
def rightN (n : Int) : Bool := decide (64 ≤ n ∧ n ≤ 512)
def frightS : Spec := fun args H Q => match args, H with
  | [.int .i64 n], [] => Q (.bool (rightN n)) []
  | _, _ => False
theorem fright_c : Meets Tryd.prog [] 14 frightS := by
  refine meets_of Γok Tryd.func14 rfl ?_
  intro args H Q h
  unfold frightS at h
  split at h
  case h_2 => exact h.elim
  rename_i n
  (refine sx_sound Γok _ ?_; conv => whnf)
  (repeat (first | (exact Out.same; conv => whnf) | (exact Out1.same; conv => whnf) | (refine QAnd.mk ?_ ?_; conv => whnf) | (apply QStepH.go; conv => whnf) | (refine Both.lit_true ?_; conv => whnf) | (refine Both.lit_false ?_; conv => whnf) | (apply QStep.go; conv => whnf) | (refine Need.mk ?_ ?_; (focus (first | omega | exact ⟨by omega, by omega⟩ | rfl | exact ⟨rfl, rfl⟩ | exact ⟨rfl, by omega, by omega⟩ | exact ⟨by omega, by omega, by omega⟩ | exact ⟨rfl, Nat.le_of_ble_eq_true rfl⟩ | exact Nat.le_of_ble_eq_true rfl | (refine ⟨rfl, rfl, ?_⟩; simp [isFar, ofV0, CV.up, SV.renL, SV.ren] <;> fail) | (refine ⟨rfl, Nat.le_of_ble_eq_true rfl, ?_⟩; simp [isFar, ofV0, CV.up, SV.renL, SV.ren] <;> fail) | (simp only [List.length_append, List.length_drop, List.length_take, List.length_replicate, List.length_map]; omega) | (simp <;> fail))); conv => whnf) | (refine ⟨_, rfl, ?_⟩; conv => whnf)))
  refine Both.dec (fun h1 => ?_) (fun h1 => ?_)
  · have e : decide (n ≤ 512) = rightN n := by unfold rightN; simp [h1]
    (conv => whnf)
    (repeat (first | (exact Out.same; conv => whnf) | (exact Out1.same; conv => whnf) | (refine QAnd.mk ?_ ?_; conv => whnf) | (apply QStepH.go; conv => whnf) | (refine Both.lit_true ?_; conv => whnf) | (refine Both.lit_false ?_; conv => whnf) | (apply QStep.go; conv => whnf) | (refine Need.mk ?_ ?_; (focus (first | omega | exact ⟨by omega, by omega⟩ | rfl | exact ⟨rfl, rfl⟩ | exact ⟨rfl, by omega, by omega⟩ | exact ⟨by omega, by omega, by omega⟩ | exact ⟨rfl, Nat.le_of_ble_eq_true rfl⟩ | exact Nat.le_of_ble_eq_true rfl | (refine ⟨rfl, rfl, ?_⟩; simp [isFar, ofV0, CV.up, SV.renL, SV.ren] <;> fail) | (refine ⟨rfl, Nat.le_of_ble_eq_true rfl, ?_⟩; simp [isFar, ofV0, CV.up, SV.renL, SV.ren] <;> fail) | (simp only [List.length_append, List.length_drop, List.length_take, List.length_replicate, List.length_map]; omega) | (simp <;> fail))); conv => whnf) | (refine ⟨_, rfl, ?_⟩; conv => whnf)))
    refine ⟨_, _, WeakV.drop rfl, ?_⟩
    rw [e]
    exact h
  · have e : false = rightN n := by unfold rightN; simp [h1]
    (conv => whnf)
    (repeat (first | (exact Out.same; conv => whnf) | (exact Out1.same; conv => whnf) | (refine QAnd.mk ?_ ?_; conv => whnf) | (apply QStepH.go; conv => whnf) | (refine Both.lit_true ?_; conv => whnf) | (refine Both.lit_false ?_; conv => whnf) | (apply QStep.go; conv => whnf) | (refine Need.mk ?_ ?_; (focus (first | omega | exact ⟨by omega, by omega⟩ | rfl | exact ⟨rfl, rfl⟩ | exact ⟨rfl, by omega, by omega⟩ | exact ⟨by omega, by omega, by omega⟩ | exact ⟨rfl, Nat.le_of_ble_eq_true rfl⟩ | exact Nat.le_of_ble_eq_true rfl | (refine ⟨rfl, rfl, ?_⟩; simp [isFar, ofV0, CV.up, SV.renL, SV.ren] <;> fail) | (refine ⟨rfl, Nat.le_of_ble_eq_true rfl, ?_⟩; simp [isFar, ofV0, CV.up, SV.renL, SV.ren] <;> fail) | (simp only [List.length_append, List.length_drop, List.length_take, List.length_replicate, List.length_map]; omega) | (simp <;> fail))); conv => whnf) | (refine ⟨_, rfl, ?_⟩; conv => whnf)))
    refine ⟨_, _, WeakV.drop rfl, ?_⟩
    rw [e]
    exact h
theorem fright_k : Contract Tryd.prog [] 14 frightS := ⟨⟨⟨_, rfl, rfl, rfl⟩⟩, fright_c⟩
theorem fright2_c : Meets Tryd.prog [] 16 frightS := by
  refine meets_of Γok Tryd.func16 rfl ?_
  intro args H Q h
  unfold frightS at h
  split at h
  case h_2 => exact h.elim
  rename_i n
  (refine sx_sound Γok _ ?_; conv => whnf)
  (repeat (first | (exact Out.same; conv => whnf) | (exact Out1.same; conv => whnf) | (refine QAnd.mk ?_ ?_; conv => whnf) | (apply QStepH.go; conv => whnf) | (refine Both.lit_true ?_; conv => whnf) | (refine Both.lit_false ?_; conv => whnf) | (apply QStep.go; conv => whnf) | (refine Need.mk ?_ ?_; (focus (first | omega | exact ⟨by omega, by omega⟩ | rfl | exact ⟨rfl, rfl⟩ | exact ⟨rfl, by omega, by omega⟩ | exact ⟨by omega, by omega, by omega⟩ | exact ⟨rfl, Nat.le_of_ble_eq_true rfl⟩ | exact Nat.le_of_ble_eq_true rfl | (refine ⟨rfl, rfl, ?_⟩; simp [isFar, ofV0, CV.up, SV.renL, SV.ren] <;> fail) | (refine ⟨rfl, Nat.le_of_ble_eq_true rfl, ?_⟩; simp [isFar, ofV0, CV.up, SV.renL, SV.ren] <;> fail) | (simp only [List.length_append, List.length_drop, List.length_take, List.length_replicate, List.length_map]; omega) | (simp <;> fail))); conv => whnf) | (refine ⟨_, rfl, ?_⟩; conv => whnf)))
  refine Both.dec (fun h1 => ?_) (fun h1 => ?_)
  · have e : decide (n ≤ 512) = rightN n := by unfold rightN; simp [h1]
    (conv => whnf)
    (repeat (first | (exact Out.same; conv => whnf) | (exact Out1.same; conv => whnf) | (refine QAnd.mk ?_ ?_; conv => whnf) | (apply QStepH.go; conv => whnf) | (refine Both.lit_true ?_; conv => whnf) | (refine Both.lit_false ?_; conv => whnf) | (apply QStep.go; conv => whnf) | (refine Need.mk ?_ ?_; (focus (first | omega | exact ⟨by omega, by omega⟩ | rfl | exact ⟨rfl, rfl⟩ | exact ⟨rfl, by omega, by omega⟩ | exact ⟨by omega, by omega, by omega⟩ | exact ⟨rfl, Nat.le_of_ble_eq_true rfl⟩ | exact Nat.le_of_ble_eq_true rfl | (refine ⟨rfl, rfl, ?_⟩; simp [isFar, ofV0, CV.up, SV.renL, SV.ren] <;> fail) | (refine ⟨rfl, Nat.le_of_ble_eq_true rfl, ?_⟩; simp [isFar, ofV0, CV.up, SV.renL, SV.ren] <;> fail) | (simp only [List.length_append, List.length_drop, List.length_take, List.length_replicate, List.length_map]; omega) | (simp <;> fail))); conv => whnf) | (refine ⟨_, rfl, ?_⟩; conv => whnf)))
    refine ⟨_, _, WeakV.drop rfl, ?_⟩
    rw [e]
    exact h
  · have e : false = rightN n := by unfold rightN; simp [h1]
    (conv => whnf)
    (repeat (first | (exact Out.same; conv => whnf) | (exact Out1.same; conv => whnf) | (refine QAnd.mk ?_ ?_; conv => whnf) | (apply QStepH.go; conv => whnf) | (refine Both.lit_true ?_; conv => whnf) | (refine Both.lit_false ?_; conv => whnf) | (apply QStep.go; conv => whnf) | (refine Need.mk ?_ ?_; (focus (first | omega | exact ⟨by omega, by omega⟩ | rfl | exact ⟨rfl, rfl⟩ | exact ⟨rfl, by omega, by omega⟩ | exact ⟨by omega, by omega, by omega⟩ | exact ⟨rfl, Nat.le_of_ble_eq_true rfl⟩ | exact Nat.le_of_ble_eq_true rfl | (refine ⟨rfl, rfl, ?_⟩; simp [isFar, ofV0, CV.up, SV.renL, SV.ren] <;> fail) | (refine ⟨rfl, Nat.le_of_ble_eq_true rfl, ?_⟩; simp [isFar, ofV0, CV.up, SV.renL, SV.ren] <;> fail) | (simp only [List.length_append, List.length_drop, List.length_take, List.length_replicate, List.length_map]; omega) | (simp <;> fail))); conv => whnf) | (refine ⟨_, rfl, ?_⟩; conv => whnf)))
    refine ⟨_, _, WeakV.drop rfl, ?_⟩
    rw [e]
    exact h
theorem fright2_k : Contract Tryd.prog [] 16 frightS := ⟨⟨⟨_, rfl, rfl, rfl⟩⟩, fright2_c⟩

def partsV (size n : Int) : Nat := if (64 ≤ size ∧ size ≤ 512) ∧ 0 ≤ n ∧ n ≤ 4096 then npar (size.toNat - 25) n.toNat else 0
def partsS : Spec := fun args H Q => match args, H with
  | [.int .i64 size, .int .i64 n], [] => Q (.int .i64 ((partsV size n : Nat) : Int)) []
  | _, _ => False
theorem parts_c : Meets Tryd.prog [] 12 partsS := by
  refine meets_of Γok Tryd.func12 rfl ?_
  intro args H Q h
  unfold partsS at h
  split at h
  case h_2 => exact h.elim
  rename_i size n
  by_cases hr : 64 ≤ size ∧ size ≤ 512
  case neg =>
    have h1 : (!rightN size) = true := by unfold rightN; simp only [decide_eq_false hr]; rfl
    have e : (0 : Int) = ((partsV size n : Nat) : Int) := by unfold partsV; rw [if_neg (fun q => hr q.1)]; rfl
    (refine sx_sound Γok _ ?_; conv => whnf)
    (repeat (first | (refine Both.of_true h1 ?_; conv => whnf) | (exact Out.same; conv => whnf) | (exact Out1.same; conv => whnf) | (refine QAnd.mk ?_ ?_; conv => whnf) | (apply QStepH.go; conv => whnf) | (refine Both.lit_true ?_; conv => whnf) | (refine Both.lit_false ?_; conv => whnf) | (apply QStep.go; conv => whnf) | (refine Need.mk ?_ ?_; (focus (first | omega | exact ⟨by omega, by omega⟩ | rfl | exact ⟨rfl, rfl⟩ | exact ⟨rfl, by omega, by omega⟩ | exact ⟨by omega, by omega, by omega⟩ | exact ⟨rfl, Nat.le_of_ble_eq_true rfl⟩ | exact Nat.le_of_ble_eq_true rfl | (refine ⟨rfl, rfl, ?_⟩; simp [isFar, ofV0, CV.up, SV.renL, SV.ren] <;> fail) | (refine ⟨rfl, Nat.le_of_ble_eq_true rfl, ?_⟩; simp [isFar, ofV0, CV.up, SV.renL, SV.ren] <;> fail) | (simp only [List.length_append, List.length_drop, List.length_take, List.length_replicate, List.length_map]; omega) | (simp <;> fail))); conv => whnf) | (refine ⟨_, rfl, ?_⟩; conv => whnf) | (refine CallVC.auto fright_k ?_; conv => whnf)))
    refine ⟨_, _, WeakV.drop rfl, ?_⟩
    rw [e]
    exact h
  have h1 : (!rightN size) = false := by unfold rightN; simp only [decide_eq_true hr]; rfl
  by_cases h0 : n < 0
  · have e : (0 : Int) = ((partsV size n : Nat) : Int) := by unfold partsV; rw [if_neg (fun q => by omega)]; rfl
    have h2 : decide (n < 0) = true := decide_eq_true h0
    (refine sx_sound Γok _ ?_; conv => whnf)
    (repeat (first | (refine Both.of_false h1 ?_; conv => whnf) | (refine Both.of_true h2 ?_; conv => whnf) | (exact Out.same; conv => whnf) | (exact Out1.same; conv => whnf) | (refine QAnd.mk ?_ ?_; conv => whnf) | (apply QStepH.go; conv => whnf) | (refine Both.lit_true ?_; conv => whnf) | (refine Both.lit_false ?_; conv => whnf) | (apply QStep.go; conv => whnf) | (refine Need.mk ?_ ?_; (focus (first | omega | exact ⟨by omega, by omega⟩ | rfl | exact ⟨rfl, rfl⟩ | exact ⟨rfl, by omega, by omega⟩ | exact ⟨by omega, by omega, by omega⟩ | exact ⟨rfl, Nat.le_of_ble_eq_true rfl⟩ | exact Nat.le_of_ble_eq_true rfl | (refine ⟨rfl, rfl, ?_⟩; simp [isFar, ofV0, CV.up, SV.renL, SV.ren] <;> fail) | (refine ⟨rfl, Nat.le_of_ble_eq_true rfl, ?_⟩; simp [isFar, ofV0, CV.up, SV.renL, SV.ren] <;> fail) | (simp only [List.length_append, List.length_drop, List.length_take, List.length_replicate, List.length_map]; omega) | (simp <;> fail))); conv => whnf) | (refine ⟨_, rfl, ?_⟩; conv => whnf) | (refine CallVC.auto fright_k ?_; conv => whnf)))
    refine ⟨_, _, WeakV.drop rfl, ?_⟩
    rw [e]
    exact h
  have h2 : decide (n < 0) = false := decide_eq_false h0
  by_cases h4 : 4096 < n
  · have e : (0 : Int) = ((partsV size n : Nat) : Int) := by unfold partsV; rw [if_neg (fun q => by omega)]; rfl
    have h3 : decide (4096 < n) = true := decide_eq_true h4
    (refine sx_sound Γok _ ?_; conv => whnf)
    (repeat (first | (refine Both.of_false h1 ?_; conv => whnf) | (refine Both.of_false h2 ?_; conv => whnf) | (refine Both.of_true h3 ?_; conv => whnf) | (exact Out.same; conv => whnf) | (exact Out1.same; conv => whnf) | (refine QAnd.mk ?_ ?_; conv => whnf) | (apply QStepH.go; conv => whnf) | (refine Both.lit_true ?_; conv => whnf) | (refine Both.lit_false ?_; conv => whnf) | (apply QStep.go; conv => whnf) | (refine Need.mk ?_ ?_; (focus (first | omega | exact ⟨by omega, by omega⟩ | rfl | exact ⟨rfl, rfl⟩ | exact ⟨rfl, by omega, by omega⟩ | exact ⟨by omega, by omega, by omega⟩ | exact ⟨rfl, Nat.le_of_ble_eq_true rfl⟩ | exact Nat.le_of_ble_eq_true rfl | (refine ⟨rfl, rfl, ?_⟩; simp [isFar, ofV0, CV.up, SV.renL, SV.ren] <;> fail) | (refine ⟨rfl, Nat.le_of_ble_eq_true rfl, ?_⟩; simp [isFar, ofV0, CV.up, SV.renL, SV.ren] <;> fail) | (simp only [List.length_append, List.length_drop, List.length_take, List.length_replicate, List.length_map]; omega) | (simp <;> fail))); conv => whnf) | (refine ⟨_, rfl, ?_⟩; conv => whnf) | (refine CallVC.auto fright_k ?_; conv => whnf)))
    refine ⟨_, _, WeakV.drop rfl, ?_⟩
    rw [e]
    exact h
  have h3 : decide (4096 < n) = false := decide_eq_false h4
  have hs : IntKind.i64.wrap (size - 25) = size - 25 := wrap_i64 (by omega) (by omega)
  have ha : IntKind.i64.wrap (n + (size - 25)) = n + (size - 25) := wrap_i64 (by omega) (by omega)
  have hb : IntKind.i64.wrap (n + (size - 25) - 1) = n + (size - 25) - 1 := wrap_i64 (by omega) (by omega)
  obtain ⟨q, hq⟩ : ∃ q : Nat, (n.toNat + (size.toNat - 25) - 1) / (size.toNat - 25) = q := ⟨_, rfl⟩
  have hqb : q ≤ 5000 := by
    rw [← hq]
    exact Nat.le_trans (Nat.div_le_self _ _) (by omega)
  have hc : (n + (size - 25) - 1).tdiv (size - 25) = (q : Int) := by
    rw [show n + (size - 25) - 1 = ((n.toNat + (size.toNat - 25) - 1 : Nat) : Int) by omega, show size - 25 = ((size.toNat - 25 : Nat) : Int) by omega, ← hq]
    rfl
  have hd : IntKind.i64.wrap ((q : Nat) : Int) = ((q : Nat) : Int) := wrap_i64 (by omega) (by omega)
  have hm : IntKind.i64.wrap (1 : Int) = 1 := rfl
  have hfin : IntKind.i64.wrap ((IntKind.i64.wrap (IntKind.i64.wrap (n + IntKind.i64.wrap (size - 25)) - 1)).tdiv (IntKind.i64.wrap (size - 25))) = (q : Int) := by rw [hs, ha, hb, hc, hd]
  have hp : partsV size n = max 1 q := by
    unfold partsV npar
    rw [if_pos ⟨hr, by omega, by omega⟩, hq]
  (refine sx_sound Γok _ ?_; conv => whnf)
  (repeat (first | (refine Both.of_false h1 ?_; conv => whnf) | (refine Both.of_false h2 ?_; conv => whnf) | (refine Both.of_false h3 ?_; conv => whnf) | (exact Out.same; conv => whnf) | (exact Out1.same; conv => whnf) | (refine QAnd.mk ?_ ?_; conv => whnf) | (apply QStepH.go; conv => whnf) | (refine Both.lit_true ?_; conv => whnf) | (refine Both.lit_false ?_; conv => whnf) | (apply QStep.go; conv => whnf) | (refine Need.mk ?_ ?_; (focus (first | omega | exact ⟨by omega, by omega⟩ | rfl | exact ⟨rfl, rfl⟩ | exact ⟨rfl, by omega, by omega⟩ | exact ⟨by omega, by omega, by omega⟩ | exact ⟨rfl, Nat.le_of_ble_eq_true rfl⟩ | exact Nat.le_of_ble_eq_true rfl | (refine ⟨rfl, rfl, ?_⟩; simp [isFar, ofV0, CV.up, SV.renL, SV.ren] <;> fail) | (refine ⟨rfl, Nat.le_of_ble_eq_true rfl, ?_⟩; simp [isFar, ofV0, CV.up, SV.renL, SV.ren] <;> fail) | (simp only [List.length_append, List.length_drop, List.length_take, List.length_replicate, List.length_map]; omega) | (simp <;> fail))); conv => whnf) | (refine ⟨_, rfl, ?_⟩; conv => whnf) | (refine CallVC.auto fright_k ?_; conv => whnf)))
  have hval : SV.int .i64 (max 1 (IntKind.i64.wrap ((IntKind.i64.wrap (IntKind.i64.wrap (n + IntKind.i64.wrap (size - 25)) - 1)).tdiv (IntKind.i64.wrap (size - 25))))) = SV.int .i64 ((partsV size n : Nat) : Int) := by
    rw [hfin, hp]
    exact congrArg _ (by omega)
  refine ⟨_, _, WeakV.drop rfl, ?_⟩
  exact (congrArg (fun x => Q x []) hval).mpr h
theorem parts_k : Contract Tryd.prog [] 12 partsS := ⟨⟨⟨_, rfl, rfl, rfl⟩⟩, parts_c⟩

/-! ## awake -/
def fawakeS : Spec := fun args H Q => match args, H with
  | [], [] => Q (.bool true) []
  | _, _ => False
theorem fawake_c : Meets Tryd.prog [] 7 fawakeS := by
  refine meets_of Γok Tryd.func7 rfl ?_
  intro args H Q h
  unfold fawakeS at h
  split at h
  case h_2 => exact h.elim
  have e1 : decide ((((partsV 64 40 : Nat) : Int)) = 2) = true := by decide
  have e2 : decide ((((partsV 64 39 : Nat) : Int)) = 1) = true := by decide
  (refine sx_sound Γok _ ?_; conv => whnf)
  (repeat (first | (refine Both.of_true e1 ?_; conv => whnf) | (exact Out.same; conv => whnf) | (exact Out1.same; conv => whnf) | (refine QAnd.mk ?_ ?_; conv => whnf) | (apply QStepH.go; conv => whnf) | (refine Both.lit_true ?_; conv => whnf) | (refine Both.lit_false ?_; conv => whnf) | (apply QStep.go; conv => whnf) | (refine Need.mk ?_ ?_; (focus (first | omega | exact ⟨by omega, by omega⟩ | rfl | exact ⟨rfl, rfl⟩ | exact ⟨rfl, by omega, by omega⟩ | exact ⟨by omega, by omega, by omega⟩ | exact ⟨rfl, Nat.le_of_ble_eq_true rfl⟩ | exact Nat.le_of_ble_eq_true rfl | (refine ⟨rfl, rfl, ?_⟩; simp [isFar, ofV0, CV.up, SV.renL, SV.ren] <;> fail) | (refine ⟨rfl, Nat.le_of_ble_eq_true rfl, ?_⟩; simp [isFar, ofV0, CV.up, SV.renL, SV.ren] <;> fail) | (simp only [List.length_append, List.length_drop, List.length_take, List.length_replicate, List.length_map]; omega) | (simp <;> fail))); conv => whnf) | (refine ⟨_, rfl, ?_⟩; conv => whnf) | (refine CallVC.auto parts_k ?_; conv => whnf)))
  refine ⟨_, _, WeakV.drop rfl, ?_⟩
  exact (congrArg (fun b => Q (SV.bool b) []) e2).mpr h
theorem fawake_k : Contract Tryd.prog [] 7 fawakeS := ⟨⟨⟨_, rfl, rfl, rfl⟩⟩, fawake_c⟩
end Go.LX
