import Derived.Test.YtfbkkhpcmnnmfaaDoorSl
import Derived.Test.YtfbkkhpcmnnmfaaDoorLm
set_option maxRecDepth 100000
set_option maxHeartbeats 1000000
set_option autoImplicit false
set_option linter.unusedVariables false
set_option linter.unusedSimpArgs false
namespace Go.LX
open Go.Proofs

/-! ## The document's constants: digits of 32 bits -/
def addY (l : List Nat) (a x : Nat) : Nat := n64 (n64 (x % 4294967296 + l.getD a 0) + n64 (x / 4294967296 * 4294967296))
def addL : Nat → List Nat → Nat → Nat → List Nat
  | 0, l, _, _ => l
  | f + 1, l, a, x => if 0 < x then addL f (l.set a (addY l a x % 4294967296)) (a + 1) (addY l a x / 4294967296) else l
theorem addL_len : ∀ (f : Nat) (l : List Nat) (a x : Nat), (addL f l a x).length = l.length
  | 0, _, _, _ => rfl
  | f + 1, l, a, x => by
    rw [addL]
    split
    · rw [addL_len f, List.length_set]
    · rfl
def addS : Spec := fun args H Q => match args, H with
  | [.own 0, .int .i64 k, .int .u64 y], [.own 58 1 n xs true] => ∃ (l : List Nat) (a x : Nat), xs = us l ∧ n = l.length ∧ l.length < 1000 ∧ k = a ∧ a ≤ l.length ∧ y = x ∧ x < 18446744073709551616 ∧
      Q (.tuple []) [.own 58 1 l.length (us (addL (l.length - a) l a x)) true]
  | _, _ => False
theorem add_c : Meets Tryd.prog [] 52 addS := by
  refine meets_of Γok Tryd.func52 rfl ?_
  intro args H Q h
  unfold addS at h
  split at h
  case h_2 => exact h.elim
  obtain ⟨l, a, x, rfl, rfl, hl, rfl, ha, rfl, hx, h⟩ := h
  obtain ⟨R, hR⟩ : ∃ R, addL (l.length - a) l a x = R := ⟨_, rfl⟩
  obtain ⟨L, hL⟩ : ∃ L, l.length = L := ⟨_, rfl⟩
  rw [hR] at h
  rw [hL] at h hR ha hl
  rw [hL]
  (refine sx_sound Γok _ ?_; conv => whnf)
  (repeat (first | (exact Out.same; conv => whnf) | (exact Out1.same; conv => whnf) | (refine QAnd.mk ?_ ?_; conv => whnf) | (apply QStepH.go; conv => whnf) | (refine Both.lit_true ?_; conv => whnf) | (refine Both.lit_false ?_; conv => whnf) | (apply QStep.go; conv => whnf) | (refine Need.mk ?_ ?_; (focus (first | omega | exact ⟨by omega, by omega⟩ | rfl | exact ⟨rfl, rfl⟩ | exact ⟨rfl, by omega, by omega⟩ | exact ⟨by omega, by omega, by omega⟩ | exact ⟨rfl, Nat.le_of_ble_eq_true rfl⟩ | exact Nat.le_of_ble_eq_true rfl | (refine ⟨rfl, rfl, ?_⟩; simp [isFar, ofV0, CV.up, SV.renL, SV.ren] <;> fail) | (refine ⟨rfl, Nat.le_of_ble_eq_true rfl, ?_⟩; simp [isFar, ofV0, CV.up, SV.renL, SV.ren] <;> fail) | (simp only [List.length_append, List.length_drop, List.length_take, List.length_replicate, List.length_map]; omega) | (simp <;> fail))); conv => whnf) | (refine ⟨_, rfl, ?_⟩; conv => whnf)))
  refine loop_rule (fun s : List Nat × Nat × Nat => match s with | (l, a, x) => ⟨[.own 0, .int .i64 (a : Int), .int .u64 (x : Int), .any, .any, .any, .any, .any, .any, .any, .any, .any, .any, .any, .any, .any, .any, .any, .any, .any, .any, .any, .any, .any, .any, .any, .any, .any, .any, .any, .any, .any, .any, .any], [.own 58 1 L (us l) true]⟩) (fun s => s.1.length = L ∧ s.2.1 ≤ L ∧ s.2.2 < 18446744073709551616 ∧ addL (L - s.2.1) s.1 s.2.1 s.2.2 = R) (fun s => L - s.2.1) (l, a, x) ⟨hL, ha, hx, hR⟩ (Weak.auto ?_) ?_
  · (repeat' ((conv => whnf); first | exact True.intro | (refine And.intro ?_ ?_)))
    all_goals first | rfl | exact .eq rfl
  clear hR hx ha
  rintro ⟨l, a, x⟩ ⟨hl1, ha, hx, hR⟩
  dsimp only at hl1 ha hx hR
  (refine sx_sound Γok _ ?_; conv => whnf)
  (repeat (first | (exact Out.same; conv => whnf) | (exact Out1.same; conv => whnf) | (refine QAnd.mk ?_ ?_; conv => whnf) | (apply QStepH.go; conv => whnf) | (refine Both.lit_true ?_; conv => whnf) | (refine Both.lit_false ?_; conv => whnf) | (apply QStep.go; conv => whnf) | (refine Need.mk ?_ ?_; (focus (first | omega | exact ⟨by omega, by omega⟩ | rfl | exact ⟨rfl, rfl⟩ | exact ⟨rfl, by omega, by omega⟩ | exact ⟨by omega, by omega, by omega⟩ | exact ⟨rfl, Nat.le_of_ble_eq_true rfl⟩ | exact Nat.le_of_ble_eq_true rfl | (refine ⟨rfl, rfl, ?_⟩; simp [isFar, ofV0, CV.up, SV.renL, SV.ren] <;> fail) | (refine ⟨rfl, Nat.le_of_ble_eq_true rfl, ?_⟩; simp [isFar, ofV0, CV.up, SV.renL, SV.ren] <;> fail) | (simp only [List.length_append, List.length_drop, List.length_take, List.length_replicate, List.length_map]; omega) | (simp <;> fail))); conv => whnf) | (refine ⟨_, rfl, ?_⟩; conv => whnf)))
  refine Both.dec (fun hlt => ?_) (fun hge => ?_)
  · (conv => whnf)
    (repeat (first | (exact Out.same; conv => whnf) | (exact Out1.same; conv => whnf) | (refine QAnd.mk ?_ ?_; conv => whnf) | (apply QStepH.go; conv => whnf) | (refine Both.lit_true ?_; conv => whnf) | (refine Both.lit_false ?_; conv => whnf) | (apply QStep.go; conv => whnf) | (refine Need.mk ?_ ?_; (focus (first | omega | exact ⟨by omega, by omega⟩ | rfl | exact ⟨rfl, rfl⟩ | exact ⟨rfl, by omega, by omega⟩ | exact ⟨by omega, by omega, by omega⟩ | exact ⟨rfl, Nat.le_of_ble_eq_true rfl⟩ | exact Nat.le_of_ble_eq_true rfl | (refine ⟨rfl, rfl, ?_⟩; simp [isFar, ofV0, CV.up, SV.renL, SV.ren] <;> fail) | (refine ⟨rfl, Nat.le_of_ble_eq_true rfl, ?_⟩; simp [isFar, ofV0, CV.up, SV.renL, SV.ren] <;> fail) | (simp only [List.length_append, List.length_drop, List.length_take, List.length_replicate, List.length_map]; omega) | (simp <;> fail))); conv => whnf) | (refine ⟨_, rfl, ?_⟩; conv => whnf)))
    refine Both.dec (fun hlt2 => ?_) (fun hge2 => ?_)
    · have haL : a < l.length := by omega
      have hat := us_at haL
      obtain ⟨y, hy⟩ : ∃ y, addY l a x = y := ⟨_, rfl⟩
      have hyv : IntKind.u64.wrap (IntKind.u64.wrap ((x : Int).tmod 4294967296 + ((l.getD a 0 : Nat) : Int)) + IntKind.u64.wrap (IntKind.u64.wrap ((x : Int).tdiv 4294967296) * 4294967296)) = (y : Int) := by
        have e1 : (x : Int).tmod 4294967296 = ((x % 4294967296 : Nat) : Int) := rfl
        have e2 : (x : Int).tdiv 4294967296 = ((x / 4294967296 : Nat) : Int) := rfl
        have e3 : (4294967296 : Int) = ((4294967296 : Nat) : Int) := rfl
        rw [e1, e2, wrap64 (x / 4294967296), n64_of (by omega), wrap64_add, e3, wrap64_mul, wrap64_add, ← hy]
        rfl
      have hy64 : y < 18446744073709551616 := by rw [← hy]; exact n64_lt _
      have hdv : IntKind.u64.wrap ((y : Int).tdiv 4294967296) = ((y / 4294967296 : Nat) : Int) := by
        rw [show (y : Int).tdiv 4294967296 = ((y / 4294967296 : Nat) : Int) from rfl, wrap64, n64_of (by omega)]
      have hset : (us l).set ((a : Int)).toNat (CV.int .u64 ((y : Int).tmod 4294967296)) = us (l.set a (y % 4294967296)) := us_set l a (y % 4294967296)
      have hwr : IntKind.i64.wrap ((a : Int) + 1) = ((a + 1 : Nat) : Int) := by rw [wrap_i64 (by omega) (by omega)]; rfl
      have hst : ti58.size = 1 ∧ ((a : Int)).toNat < (us l).length := ⟨rfl, by rw [us_len, Int.toNat_natCast]; exact haL⟩
      have hobj : LObj.own 58 1 L ((us l).set ((a : Int)).toNat (CV.int .u64 ((y : Int).tmod 4294967296))) true = LObj.own 58 1 L (us (l.set a (y % 4294967296))) true := by rw [hset]
      have hR2 : addL (L - (a + 1)) (l.set a (y % 4294967296)) (a + 1) (y / 4294967296) = R := by
        rw [← hR, show L - a = (L - (a + 1)) + 1 by omega, addL, if_pos (by omega), hy]
      (conv => whnf)
      (repeat (first | (refine ⟨_, hat, ?_⟩; conv => whnf) | (exact Out.same; conv => whnf) | (exact Out1.same; conv => whnf) | (refine QAnd.mk ?_ ?_; conv => whnf) | (apply QStepH.go; conv => whnf) | (refine Both.lit_true ?_; conv => whnf) | (refine Both.lit_false ?_; conv => whnf) | (apply QStep.go; conv => whnf) | (refine Need.mk ?_ ?_; (focus (first | omega | exact ⟨by omega, by omega⟩ | rfl | exact ⟨rfl, rfl⟩ | exact ⟨rfl, by omega, by omega⟩ | exact ⟨by omega, by omega, by omega⟩ | exact ⟨rfl, Nat.le_of_ble_eq_true rfl⟩ | exact Nat.le_of_ble_eq_true rfl | (refine ⟨rfl, rfl, ?_⟩; simp [isFar, ofV0, CV.up, SV.renL, SV.ren] <;> fail) | (refine ⟨rfl, Nat.le_of_ble_eq_true rfl, ?_⟩; simp [isFar, ofV0, CV.up, SV.renL, SV.ren] <;> fail) | (simp only [List.length_append, List.length_drop, List.length_take, List.length_replicate, List.length_map]; omega) | (simp <;> fail))); conv => whnf) | (refine ⟨_, rfl, ?_⟩; conv => whnf)))
      rw [hyv]
      (repeat (first | (refine Need.mk hst ?_; conv => whnf) | (exact Out.same; conv => whnf) | (exact Out1.same; conv => whnf) | (refine QAnd.mk ?_ ?_; conv => whnf) | (apply QStepH.go; conv => whnf) | (refine Both.lit_true ?_; conv => whnf) | (refine Both.lit_false ?_; conv => whnf) | (apply QStep.go; conv => whnf) | (refine Need.mk ?_ ?_; (focus (first | omega | exact ⟨by omega, by omega⟩ | rfl | exact ⟨rfl, rfl⟩ | exact ⟨rfl, by omega, by omega⟩ | exact ⟨by omega, by omega, by omega⟩ | exact ⟨rfl, Nat.le_of_ble_eq_true rfl⟩ | exact Nat.le_of_ble_eq_true rfl | (refine ⟨rfl, rfl, ?_⟩; simp [isFar, ofV0, CV.up, SV.renL, SV.ren] <;> fail) | (refine ⟨rfl, Nat.le_of_ble_eq_true rfl, ?_⟩; simp [isFar, ofV0, CV.up, SV.renL, SV.ren] <;> fail) | (simp only [List.length_append, List.length_drop, List.length_take, List.length_replicate, List.length_map]; omega) | (simp <;> fail))); conv => whnf) | (refine ⟨_, rfl, ?_⟩; conv => whnf)))
      refine ⟨(l.set a (y % 4294967296), a + 1, y / 4294967296), ⟨by rw [List.length_set]; exact hl1, by show a + 1 ≤ L; omega, by show y / 4294967296 < _; omega, hR2⟩, by show L - (a + 1) < L - a; omega, Weak.auto ?_⟩
      (repeat' ((conv => whnf); first | exact True.intro | (refine And.intro ?_ ?_)))
      all_goals first | rfl | exact .eq rfl | exact hobj | exact congrArg (SV.int .i64) hwr | exact congrArg (SV.int .u64) hdv
    · have h0 : L - a = 0 := by omega
      rw [h0] at hR
      have hR : l = R := hR
      (conv => whnf)
      (repeat (first | (exact Out.same; conv => whnf) | (exact Out1.same; conv => whnf) | (refine QAnd.mk ?_ ?_; conv => whnf) | (apply QStepH.go; conv => whnf) | (refine Both.lit_true ?_; conv => whnf) | (refine Both.lit_false ?_; conv => whnf) | (apply QStep.go; conv => whnf) | (refine Need.mk ?_ ?_; (focus (first | omega | exact ⟨by omega, by omega⟩ | rfl | exact ⟨rfl, rfl⟩ | exact ⟨rfl, by omega, by omega⟩ | exact ⟨by omega, by omega, by omega⟩ | exact ⟨rfl, Nat.le_of_ble_eq_true rfl⟩ | exact Nat.le_of_ble_eq_true rfl | (refine ⟨rfl, rfl, ?_⟩; simp [isFar, ofV0, CV.up, SV.renL, SV.ren] <;> fail) | (refine ⟨rfl, Nat.le_of_ble_eq_true rfl, ?_⟩; simp [isFar, ofV0, CV.up, SV.renL, SV.ren] <;> fail) | (simp only [List.length_append, List.length_drop, List.length_take, List.length_replicate, List.length_map]; omega) | (simp <;> fail))); conv => whnf) | (refine ⟨_, rfl, ?_⟩; conv => whnf) | (refine Both.of_false ?_ ?_; (focus (first | rfl | (simp <;> fail))); conv => whnf) | (refine Both.of_true ?_ ?_; (focus (first | rfl | (simp <;> fail))); conv => whnf)))
      rw [hR]
      refine ⟨_, _, WeakV.auto ?_, h⟩
      (repeat' ((conv => whnf); first | exact True.intro | (refine And.intro ?_ ?_)))
      all_goals first | rfl | exact .eq rfl
  · have hx0 : x = 0 := by omega
    have hR : l = R := by
      rw [hx0] at hR
      rw [← hR]
      cases L - a with
      | zero => rfl
      | succ f => rw [addL, if_neg (by omega)]
    (conv => whnf)
    (repeat (first | (exact Out.same; conv => whnf) | (exact Out1.same; conv => whnf) | (refine QAnd.mk ?_ ?_; conv => whnf) | (apply QStepH.go; conv => whnf) | (refine Both.lit_true ?_; conv => whnf) | (refine Both.lit_false ?_; conv => whnf) | (apply QStep.go; conv => whnf) | (refine Need.mk ?_ ?_; (focus (first | omega | exact ⟨by omega, by omega⟩ | rfl | exact ⟨rfl, rfl⟩ | exact ⟨rfl, by omega, by omega⟩ | exact ⟨by omega, by omega, by omega⟩ | exact ⟨rfl, Nat.le_of_ble_eq_true rfl⟩ | exact Nat.le_of_ble_eq_true rfl | (refine ⟨rfl, rfl, ?_⟩; simp [isFar, ofV0, CV.up, SV.renL, SV.ren] <;> fail) | (refine ⟨rfl, Nat.le_of_ble_eq_true rfl, ?_⟩; simp [isFar, ofV0, CV.up, SV.renL, SV.ren] <;> fail) | (simp only [List.length_append, List.length_drop, List.length_take, List.length_replicate, List.length_map]; omega) | (simp <;> fail))); conv => whnf) | (refine ⟨_, rfl, ?_⟩; conv => whnf) | (refine Both.of_false ?_ ?_; (focus (first | rfl | (simp <;> fail))); conv => whnf) | (refine Both.of_true ?_ ?_; (focus (first | rfl | (simp <;> fail))); conv => whnf)))
    rw [hR]
    refine ⟨_, _, WeakV.auto ?_, h⟩
    (repeat' ((conv => whnf); first | exact True.intro | (refine And.intro ?_ ?_)))
    all_goals first | rfl | exact .eq rfl
theorem add_k : Contract Tryd.prog [] 52 addS := ⟨⟨⟨_, rfl, rfl, rfl⟩⟩, add_c⟩
end Go.LX
