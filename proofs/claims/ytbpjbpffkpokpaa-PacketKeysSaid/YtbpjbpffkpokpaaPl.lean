import Derived.Test.YtbpjbpffkpokpaaPk
import Derived.Test.YtbpjbpffkpokpaaWireV
set_option maxRecDepth 100000
set_option maxHeartbeats 4000000
set_option autoImplicit false
set_option linter.unusedVariables false
set_option linter.unusedSimpArgs false
namespace Go.LX
open Go.Proofs

theorem byteInt (b : UInt8) (n : Nat) (h : n < 256) : ((b.toNat : Int) = n) ↔ b = UInt8.ofNat n := by
  constructor
  · intro h1
    apply UInt8.toNat_inj.1
    rw [UInt8.toNat_ofNat']
    omega
  · intro h1
    rw [h1, UInt8.toNat_ofNat']
    omega
theorem u64_bd {n : Int} (h : (Lit.int .u64 n).wf = true) : 0 ≤ n ∧ n < 18446744073709551616 := by
  obtain ⟨r, rfl⟩ := wf_u64 h
  have := r.isLt
  unfold u64
  omega
def lawUSS : Spec := fun args H Q => match args, H with
  | [.int .u64 n, .str k], [] => 0 ≤ n ∧ n < 18446744073709551616 ∧ Q (.bool true) []
  | _, _ => False
theorem keys_law : Meets Try.prog [] 3 lawUSS := by
  refine meets_of Γok Try.func3 rfl ?_
  intro args H Q h
  unfold lawUSS at h
  split at h
  case h_2 => exact h.elim
  rename_i n k
  obtain ⟨h0, h1, h⟩ := h
  (refine sx_sound Γok _ ?_; conv => whnf)
  (repeat (first | (exact Out.same; conv => whnf) | (exact Out1.same; conv => whnf) | (refine QAnd.mk ?_ ?_; conv => whnf) | (apply QStepH.go; conv => whnf) | (refine Both.lit_true ?_; conv => whnf) | (refine Both.lit_false ?_; conv => whnf) | (apply QStep.go; conv => whnf) | (refine Need.mk (by first | omega | exact ⟨by omega, by omega⟩ | rfl | exact ⟨rfl, rfl⟩ | exact ⟨rfl, by omega, by omega⟩ | exact ⟨by omega, by omega, by omega⟩ | exact ⟨rfl, Nat.le_of_ble_eq_true rfl⟩ | exact Nat.le_of_ble_eq_true rfl | exact ⟨rfl, rfl, by simp [isFar, ofV0, CV.up]⟩ | exact ⟨rfl, Nat.le_of_ble_eq_true rfl, by simp [isFar, ofV0, CV.up]⟩ | (simp <;> fail)) ?_; conv => whnf) | (refine ⟨_, rfl, ?_⟩; conv => whnf) | (refine CallVC.auto awake_k ?_; conv => whnf)))
  refine Both.dec (fun hk => ?_) (fun hk => ?_)
  · (conv => whnf)
    exact ⟨_, _, WeakV.drop rfl, h⟩
  (conv => whnf)
  refine CallVC.auto sent_k (Need.mk ⟨h0, h1⟩ ?_)
  (conv => whnf)
  refine CallVC.auto rkey_k (Need.mk ⟨h0, h1, by decide⟩ ?_)
  (conv => whnf)
  (repeat (first | (refine CallVC.auto recv_k (Need.mk ⟨h0, h1⟩ ?_); conv => whnf) | (refine CallVC.auto answ_k (Need.mk ⟨h0, h1⟩ ?_); conv => whnf) | (refine CallVC.auto rkey_k (Need.mk ⟨h0, h1, by decide⟩ ?_); conv => whnf) | (exact Out.same; conv => whnf) | (exact Out1.same; conv => whnf) | (refine QAnd.mk ?_ ?_; conv => whnf) | (apply QStepH.go; conv => whnf) | (refine Both.lit_true ?_; conv => whnf) | (refine Both.lit_false ?_; conv => whnf) | (apply QStep.go; conv => whnf) | (refine Need.mk (by first | omega | exact ⟨by omega, by omega⟩ | rfl | exact ⟨rfl, rfl⟩ | exact ⟨rfl, by omega, by omega⟩ | exact ⟨by omega, by omega, by omega⟩ | exact ⟨rfl, Nat.le_of_ble_eq_true rfl⟩ | exact Nat.le_of_ble_eq_true rfl | exact ⟨rfl, rfl, by simp [isFar, ofV0, CV.up]⟩ | exact ⟨rfl, Nat.le_of_ble_eq_true rfl, by simp [isFar, ofV0, CV.up]⟩ | (simp <;> fail)) ?_; conv => whnf) | (refine ⟨_, rfl, ?_⟩; conv => whnf) | (refine Both.of_false ?_ ?_; (focus (first | rfl | (simp <;> fail))); conv => whnf) | (refine Both.of_true ?_ ?_; (focus (first | rfl | (simp <;> fail))); conv => whnf)))
  refine CallVC.auto seq_k (Need.mk (by omega) ?_)
  intro x b hb hx
  (conv => whnf)
  have e1 := byteInt (k.getD (0 : Int).toNat 0) 99 (by omega)
  have e2 := byteInt (k.getD (0 : Int).toNat 0) 114 (by omega)
  have e3 := byteInt (k.getD (0 : Int).toNat 0) 97 (by omega)
  refine Both.dec (fun h9 => ?_) (fun h9 => ?_)
  · (conv => whnf)
    (repeat (first | (exact Out.same; conv => whnf) | (exact Out1.same; conv => whnf) | (refine QAnd.mk ?_ ?_; conv => whnf) | (apply QStepH.go; conv => whnf) | (refine Both.lit_true ?_; conv => whnf) | (refine Both.lit_false ?_; conv => whnf) | (apply QStep.go; conv => whnf) | (refine Need.mk (by first | omega | exact ⟨by omega, by omega⟩ | rfl | exact ⟨rfl, rfl⟩ | exact ⟨rfl, by omega, by omega⟩ | exact ⟨by omega, by omega, by omega⟩ | exact ⟨rfl, Nat.le_of_ble_eq_true rfl⟩ | exact Nat.le_of_ble_eq_true rfl | exact ⟨rfl, rfl, by simp [isFar, ofV0, CV.up]⟩ | exact ⟨rfl, Nat.le_of_ble_eq_true rfl, by simp [isFar, ofV0, CV.up]⟩ | (simp <;> fail)) ?_; conv => whnf) | (refine ⟨_, rfl, ?_⟩; conv => whnf)))
    have hk9 : ∀ p : Prop, [Decidable p] → (p ↔ (k.getD 0 0 = 99 ∨ k.getD 0 0 = 114 ∨ k.getD 0 0 = 97)) → isKey k = decide p := by
      intro p _ hp
      unfold isKey
      exact decide_eq_decide.2 ⟨fun h2 => hp.2 h2.2, fun h2 => ⟨by omega, hp.1 h2⟩⟩
    have good : isKey k = true → x = bev (k.drop 1) ∧ b = true := by
      intro h2
      rw [h2] at hb hx
      exact ⟨hx, hb⟩
    have bad : isKey k = false → x = 0 ∧ b = false := by
      intro h2
      rw [h2] at hb hx
      exact ⟨hx, hb⟩
    refine Both.dec (fun c1 => ?_) (fun c1 => ?_)
    all_goals
      (conv => whnf)
      (repeat (first | (exact Out.same; conv => whnf) | (exact Out1.same; conv => whnf) | (refine QAnd.mk ?_ ?_; conv => whnf) | (apply QStepH.go; conv => whnf) | (refine Both.lit_true ?_; conv => whnf) | (refine Both.lit_false ?_; conv => whnf) | (apply QStep.go; conv => whnf) | (refine Need.mk (by first | omega | exact ⟨by omega, by omega⟩ | rfl | exact ⟨rfl, rfl⟩ | exact ⟨rfl, by omega, by omega⟩ | exact ⟨by omega, by omega, by omega⟩ | exact ⟨rfl, Nat.le_of_ble_eq_true rfl⟩ | exact Nat.le_of_ble_eq_true rfl | exact ⟨rfl, rfl, by simp [isFar, ofV0, CV.up]⟩ | exact ⟨rfl, Nat.le_of_ble_eq_true rfl, by simp [isFar, ofV0, CV.up]⟩ | (simp <;> fail)) ?_; conv => whnf) | (refine ⟨_, rfl, ?_⟩; conv => whnf)))
      try refine Both.dec (fun c2 => ?_) (fun c2 => ?_)
    all_goals
      (conv => whnf)
      (repeat (first | (exact Out.same; conv => whnf) | (exact Out1.same; conv => whnf) | (refine QAnd.mk ?_ ?_; conv => whnf) | (apply QStepH.go; conv => whnf) | (refine Both.lit_true ?_; conv => whnf) | (refine Both.lit_false ?_; conv => whnf) | (apply QStep.go; conv => whnf) | (refine Need.mk (by first | omega | exact ⟨by omega, by omega⟩ | rfl | exact ⟨rfl, rfl⟩ | exact ⟨rfl, by omega, by omega⟩ | exact ⟨by omega, by omega, by omega⟩ | exact ⟨rfl, Nat.le_of_ble_eq_true rfl⟩ | exact Nat.le_of_ble_eq_true rfl | exact ⟨rfl, rfl, by simp [isFar, ofV0, CV.up]⟩ | exact ⟨rfl, Nat.le_of_ble_eq_true rfl, by simp [isFar, ofV0, CV.up]⟩ | (simp <;> fail)) ?_; conv => whnf) | (refine ⟨_, rfl, ?_⟩; conv => whnf)))
      try refine Both.dec (fun c3 => ?_) (fun c3 => ?_)
    all_goals
      (conv => whnf)
      (repeat (first | (exact Out.same; conv => whnf) | (exact Out1.same; conv => whnf) | (refine QAnd.mk ?_ ?_; conv => whnf) | (apply QStepH.go; conv => whnf) | (refine Both.lit_true ?_; conv => whnf) | (refine Both.lit_false ?_; conv => whnf) | (apply QStep.go; conv => whnf) | (refine Need.mk (by first | omega | exact ⟨by omega, by omega⟩ | rfl | exact ⟨rfl, rfl⟩ | exact ⟨rfl, by omega, by omega⟩ | exact ⟨by omega, by omega, by omega⟩ | exact ⟨rfl, Nat.le_of_ble_eq_true rfl⟩ | exact Nat.le_of_ble_eq_true rfl | exact ⟨rfl, rfl, by simp [isFar, ofV0, CV.up]⟩ | exact ⟨rfl, Nat.le_of_ble_eq_true rfl, by simp [isFar, ofV0, CV.up]⟩ | (simp <;> fail)) ?_; conv => whnf) | (refine ⟨_, rfl, ?_⟩; conv => whnf)))
    all_goals
      first
        | (have hkk : isKey k = false := decide_eq_false (fun h2 => by
             rcases h2.2 with h3 | h3 | h3
             · exact c1 (e1.2 h3)
             · exact c2 (e2.2 h3)
             · exact c3 (e3.2 h3))
           obtain ⟨rfl, rfl⟩ := bad hkk
           (repeat (first | (exact Out.same; conv => whnf) | (exact Out1.same; conv => whnf) | (refine QAnd.mk ?_ ?_; conv => whnf) | (apply QStepH.go; conv => whnf) | (refine Both.lit_true ?_; conv => whnf) | (refine Both.lit_false ?_; conv => whnf) | (apply QStep.go; conv => whnf) | (refine Need.mk (by first | omega | exact ⟨by omega, by omega⟩ | rfl | exact ⟨rfl, rfl⟩ | exact ⟨rfl, by omega, by omega⟩ | exact ⟨by omega, by omega, by omega⟩ | exact ⟨rfl, Nat.le_of_ble_eq_true rfl⟩ | exact Nat.le_of_ble_eq_true rfl | exact ⟨rfl, rfl, by simp [isFar, ofV0, CV.up]⟩ | exact ⟨rfl, Nat.le_of_ble_eq_true rfl, by simp [isFar, ofV0, CV.up]⟩ | (simp <;> fail)) ?_; conv => whnf) | (refine ⟨_, rfl, ?_⟩; conv => whnf)))
           refine ⟨_, _, WeakV.drop (congrArg SV.bool ?_), h⟩
           rfl)
        | (have hkk : isKey k = true := decide_eq_true ⟨by omega, by
             first
               | exact .inl (e1.1 c1)
               | exact .inr (.inl (e2.1 c2))
               | exact .inr (.inr (e3.1 c3))⟩
           obtain ⟨hx1, rfl⟩ := good hkk
           (repeat (first | (refine Need.mk ⟨by omega, by omega, by omega⟩ ?_; conv => whnf) | (exact Out.same; conv => whnf) | (exact Out1.same; conv => whnf) | (refine QAnd.mk ?_ ?_; conv => whnf) | (apply QStepH.go; conv => whnf) | (refine Both.lit_true ?_; conv => whnf) | (refine Both.lit_false ?_; conv => whnf) | (apply QStep.go; conv => whnf) | (refine Need.mk (by first | omega | exact ⟨by omega, by omega⟩ | rfl | exact ⟨rfl, rfl⟩ | exact ⟨rfl, by omega, by omega⟩ | exact ⟨by omega, by omega, by omega⟩ | exact ⟨rfl, Nat.le_of_ble_eq_true rfl⟩ | exact Nat.le_of_ble_eq_true rfl | exact ⟨rfl, rfl, by simp [isFar, ofV0, CV.up]⟩ | exact ⟨rfl, Nat.le_of_ble_eq_true rfl, by simp [isFar, ofV0, CV.up]⟩ | (simp <;> fail)) ?_; conv => whnf) | (refine ⟨_, rfl, ?_⟩; conv => whnf)))
           have htk : List.drop (Int.toNat 1) (List.take ((k.length : Int)).toNat k) = k.drop 1 := by simp
           refine CallVC.auto val_k (Need.mk (by rw [htk, List.length_drop]; omega) ?_)
           (conv => whnf)
           (repeat (first | (exact Out.same; conv => whnf) | (exact Out1.same; conv => whnf) | (refine QAnd.mk ?_ ?_; conv => whnf) | (apply QStepH.go; conv => whnf) | (refine Both.lit_true ?_; conv => whnf) | (refine Both.lit_false ?_; conv => whnf) | (apply QStep.go; conv => whnf) | (refine Need.mk (by first | omega | exact ⟨by omega, by omega⟩ | rfl | exact ⟨rfl, rfl⟩ | exact ⟨rfl, by omega, by omega⟩ | exact ⟨by omega, by omega, by omega⟩ | exact ⟨rfl, Nat.le_of_ble_eq_true rfl⟩ | exact Nat.le_of_ble_eq_true rfl | exact ⟨rfl, rfl, by simp [isFar, ofV0, CV.up]⟩ | exact ⟨rfl, Nat.le_of_ble_eq_true rfl, by simp [isFar, ofV0, CV.up]⟩ | (simp <;> fail)) ?_; conv => whnf) | (refine ⟨_, rfl, ?_⟩; conv => whnf)))
           refine ⟨_, _, WeakV.drop (congrArg SV.bool ?_), h⟩
           rw [htk, hx1]
           simp)
  · have hkk : isKey k = false := decide_eq_false (by omega)
    obtain rfl : b = false := by rw [hb, hkk]
    obtain rfl : x = 0 := by rw [hx, hkk]; rfl
    (conv => whnf)
    (repeat (first | (exact Out.same; conv => whnf) | (exact Out1.same; conv => whnf) | (refine QAnd.mk ?_ ?_; conv => whnf) | (apply QStepH.go; conv => whnf) | (refine Both.lit_true ?_; conv => whnf) | (refine Both.lit_false ?_; conv => whnf) | (apply QStep.go; conv => whnf) | (refine Need.mk (by first | omega | exact ⟨by omega, by omega⟩ | rfl | exact ⟨rfl, rfl⟩ | exact ⟨rfl, by omega, by omega⟩ | exact ⟨by omega, by omega, by omega⟩ | exact ⟨rfl, Nat.le_of_ble_eq_true rfl⟩ | exact Nat.le_of_ble_eq_true rfl | exact ⟨rfl, rfl, by simp [isFar, ofV0, CV.up]⟩ | exact ⟨rfl, Nat.le_of_ble_eq_true rfl, by simp [isFar, ofV0, CV.up]⟩ | (simp <;> fail)) ?_; conv => whnf) | (refine ⟨_, rfl, ?_⟩; conv => whnf)))
    refine ⟨_, _, WeakV.drop (congrArg SV.bool ?_), h⟩
    rfl
end Go.LX
