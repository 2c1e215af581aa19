import Derived.Test.YteejbjdjfngagaaWr
set_option maxRecDepth 100000
set_option maxHeartbeats 4000000
set_option autoImplicit false
set_option linter.unusedVariables false
set_option linter.unusedSimpArgs false
namespace Go.LX
open Go.Proofs

def lawSCS : Spec := fun args H Q => match args, H with
  | [.str S, .sl 4 n cs false], [] => ∃ l : List Call, n = l.length ∧ cs = l.flatMap Call.en ∧ (∀ c ∈ l, c.ok) ∧ l.length ≤ 9223372036854775807 ∧ Q (.bool true) []
  | _, _ => False
theorem reads_law : Meets Try.prog [] 5 lawSCS := by
  refine meets_of Γok Try.func5 rfl ?_
  intro args H Q h
  unfold lawSCS at h
  split at h
  case h_2 => exact h.elim
  rename_i S n cs
  obtain ⟨l, rfl, rfl, hok, hlen, h⟩ := h
  (refine sx_sound Γok _ ?_; conv => whnf)
  (repeat (first | (exact Out.same; conv => whnf) | (exact Out1.same; conv => whnf) | (apply QStepH.go; conv => whnf) | (refine Both.lit_true ?_; conv => whnf) | (refine Both.lit_false ?_; conv => whnf) | (apply QStep.go; conv => whnf) | (refine Need.mk (by first | omega | exact ⟨by omega, by omega⟩ | rfl | exact ⟨rfl, rfl⟩ | exact ⟨rfl, by omega, by omega⟩ | exact ⟨by omega, by omega, by omega⟩ | exact ⟨rfl, Nat.le_of_ble_eq_true rfl⟩) ?_; conv => whnf) | (refine ⟨_, rfl, ?_⟩; conv => whnf) | (refine CallVC.auto awake_k ?_; conv => whnf)))
  refine CallVC.auto few_k ⟨l, rfl, rfl, hok, hlen, ?_⟩
  intro b hb
  (conv => whnf)
  refine Both.cases (fun hb2 => ?_) (fun hb2 => ?_)
  · (conv => whnf)
    (repeat (first | (refine Both.lit_true ?_; conv => whnf) | (refine Both.lit_false ?_; conv => whnf) | (refine Need.mk (by first | omega | exact ⟨by omega, by omega⟩ | rfl | exact ⟨rfl, rfl⟩ | exact ⟨rfl, Nat.le_of_ble_eq_true rfl⟩) ?_; conv => whnf)))
    exact ⟨_, _, WeakV.drop rfl, h⟩
  · (conv => whnf)
    (repeat (first | (refine Both.lit_true ?_; conv => whnf) | (refine Both.lit_false ?_; conv => whnf) | (refine Need.mk (by first | omega | exact ⟨by omega, by omega⟩ | rfl | exact ⟨rfl, rfl⟩ | exact ⟨rfl, Nat.le_of_ble_eq_true rfl⟩) ?_; conv => whnf)))
    refine Both.dec (fun hS => ?_) (fun hS => ?_)
    · (conv => whnf)
      exact ⟨_, _, WeakV.drop rfl, h⟩
    · (conv => whnf)
      (repeat (first | (exact Out.same; conv => whnf) | (exact Out1.same; conv => whnf) | (apply QStepH.go; conv => whnf) | (refine Both.lit_true ?_; conv => whnf) | (refine Both.lit_false ?_; conv => whnf) | (apply QStep.go; conv => whnf) | (refine Need.mk (by first | omega | exact ⟨by omega, by omega⟩ | rfl | exact ⟨rfl, rfl⟩ | exact ⟨rfl, by omega, by omega⟩ | exact ⟨by omega, by omega, by omega⟩ | exact ⟨rfl, Nat.le_of_ble_eq_true rfl⟩) ?_; conv => whnf) | (refine ⟨_, rfl, ?_⟩; conv => whnf) | (refine CallVC.auto rnew_k ?_; conv => whnf)))
      refine loop_rule (fun x : Nat × Nat × Int => match x with
        | (k, a, e) => ⟨[.str S, .sl 4 l.length (l.flatMap Call.en) false, .any, .any, .any, .ptr 0 0, .ptr 1 0, .int .i64 (k : Int), .any, .any, .any, .any, .any, .any, .any, .any, .any, .any, .any, .any, .any, .any, .any, .any, .any, .any, .any, .any, .any, .any, .any, .any, .any, .any, .any, .any, .any, .any, .any, .any, .any, .any, .any, .any, .any, .any, .any, .any, .any, .any, .any, .any, .any, .any, .any, .any, .any, .any, .any, .any, .any, .any, .any, .any, .any, .any, .any, .any, .any, .any, .any, .any, .any, .any, .any, .any, .any, .any, .any, .any, .any, .any, .any, .any, .any, .any, .any, .any, .any, .any, .any, .any, .any, .any, .any, .any, .any, .any, .any, .any, .any, .any, .any, .any, .any, .any, .any, .any, .any, .any, .any, .any, .any, .any, .any, .any, .any, .any, .any, .any, .any, .any, .any, .any, .any], rd e (S.drop a) ++ mrd S a e⟩) (fun x => x.1 ≤ l.length ∧ x.2.1 ≤ S.length) (fun x => l.length - x.1) (0, 0, 0) ⟨by simp, by simp⟩ (Weak.auto ?_) ?_
      · (repeat' ((conv => whnf); first | exact True.intro | (refine And.intro ?_ ?_)))
        all_goals first | rfl | exact .eq rfl | done
      · rintro ⟨k, a, e⟩ ⟨hk, ha⟩
        have hk : k ≤ l.length := hk
        have ha : a ≤ S.length := ha
        (refine sx_sound Γok _ ?_; conv => whnf)
        refine Both.dec (fun hlt => ?_) (fun hge => ?_)
        · have hkl : k < l.length := by have : (k : Int) < l.length := hlt; omega
          (conv => whnf)
          refine Need.mk ⟨rfl, by omega, by omega⟩ ?_
          (conv => whnf)
          refine ⟨_, calls_row l k hkl, ?_⟩
          (conv => whnf)
          (refine ⟨_, rfl, ?_⟩; conv => whnf)
          have hc := hok _ (List.getElem_mem hkl)
          generalize hcc : l[k] = c at hc ⊢
          have hr := calls_row l k hkl
          rw [hcc] at hr
          have hsl : (S.drop a).length < 1000000 := by rw [List.length_drop]; omega
          refine Both.dec (fun h0 => ?_) (fun h0 => ?_)
          · (conv => whnf)
            (repeat (first | (refine ⟨_, hr, ?_⟩; conv => whnf) | (exact Out.same; conv => whnf) | (exact Out1.same; conv => whnf) | (apply QStepH.go; conv => whnf) | (refine Both.lit_true ?_; conv => whnf) | (refine Both.lit_false ?_; conv => whnf) | (apply QStep.go; conv => whnf) | (refine Need.mk (by first | omega | exact ⟨by omega, by omega⟩ | rfl | exact ⟨rfl, rfl⟩ | exact ⟨rfl, by omega, by omega⟩ | exact ⟨by omega, by omega, by omega⟩ | exact ⟨rfl, Nat.le_of_ble_eq_true rfl⟩) ?_; conv => whnf) | (refine ⟨_, rfl, ?_⟩; conv => whnf) | (refine CallVC.auto rbyte_k ?_; conv => whnf)))
            refine CallVC.auto mdo_k ⟨a, c, rfl, rfl, rfl, ha, by omega, fun a' ha' hd => ?_⟩
            (conv => whnf)
            (refine DrawVC.all Γok (by kernel_rfl) (by kernel_rfl) ?_; conv => whnf)
            (repeat (first | (exact Out.same; conv => whnf) | (exact Out1.same; conv => whnf) | (apply QStepH.go; conv => whnf) | (refine Both.lit_true ?_; conv => whnf) | (refine Both.lit_false ?_; conv => whnf) | (apply QStep.go; conv => whnf) | (refine Need.mk (by first | omega | exact ⟨by omega, by omega⟩ | rfl | exact ⟨rfl, rfl⟩ | exact ⟨rfl, Nat.le_of_ble_eq_true rfl⟩) ?_; conv => whnf)))
            refine Both.dec_not (fun hx => absurd ?_ hx) (fun _ => ?_)
            · exact by rw [wrap_u64 (by omega) (by have := rdV_lt1 e (S.drop a); omega)]; simp [doV, h0]
            (conv => whnf)
            (repeat (first | (exact Out.same; conv => whnf) | (exact Out1.same; conv => whnf) | (apply QStepH.go; conv => whnf) | (refine Both.lit_true ?_; conv => whnf) | (refine Both.lit_false ?_; conv => whnf) | (apply QStep.go; conv => whnf) | (refine Need.mk (by first | omega | exact ⟨by omega, by omega⟩ | rfl | exact ⟨rfl, rfl⟩ | exact ⟨rfl, Nat.le_of_ble_eq_true rfl⟩) ?_; conv => whnf)))
            refine Both.dec_not (fun hx => absurd ?_ hx) (fun _ => ?_)
            · exact by simp [doT, h0]
            (conv => whnf)
            (repeat (first | (exact Out.same; conv => whnf) | (exact Out1.same; conv => whnf) | (apply QStepH.go; conv => whnf) | (refine Both.lit_true ?_; conv => whnf) | (refine Both.lit_false ?_; conv => whnf) | (apply QStep.go; conv => whnf) | (refine Need.mk (by first | omega | exact ⟨by omega, by omega⟩ | rfl | exact ⟨rfl, rfl⟩ | exact ⟨rfl, Nat.le_of_ble_eq_true rfl⟩) ?_; conv => whnf)))
            (repeat (first | (exact Out.same; conv => whnf) | (exact Out1.same; conv => whnf) | (apply QStepH.go; conv => whnf) | (refine Both.lit_true ?_; conv => whnf) | (refine Both.lit_false ?_; conv => whnf) | (apply QStep.go; conv => whnf) | (refine Need.mk (by first | omega | exact ⟨by omega, by omega⟩ | rfl | exact ⟨rfl, rfl⟩ | exact ⟨rfl, by omega, by omega⟩ | exact ⟨by omega, by omega, by omega⟩ | exact ⟨rfl, Nat.le_of_ble_eq_true rfl⟩) ?_; conv => whnf) | (refine ⟨_, rfl, ?_⟩; conv => whnf) | (refine CallVC.auto left_k ?_; conv => whnf)))
            refine CallVC.auto mleft_k ⟨a', rfl, ha', by omega, ?_⟩
            (conv => whnf)
            (repeat (first | (exact Out.same; conv => whnf) | (exact Out1.same; conv => whnf) | (apply QStepH.go; conv => whnf) | (refine Both.lit_true ?_; conv => whnf) | (refine Both.lit_false ?_; conv => whnf) | (apply QStep.go; conv => whnf) | (refine Need.mk (by first | omega | exact ⟨by omega, by omega⟩ | rfl | exact ⟨rfl, rfl⟩ | exact ⟨rfl, Nat.le_of_ble_eq_true rfl⟩) ?_; conv => whnf)))
            refine Both.dec_not (fun hx => absurd ?_ hx) (fun _ => ?_)
            · rw [hd]; simp [doE, doS, h0]
            (conv => whnf)
            (repeat (first | (exact Out.same; conv => whnf) | (exact Out1.same; conv => whnf) | (apply QStepH.go; conv => whnf) | (refine Both.lit_true ?_; conv => whnf) | (refine Both.lit_false ?_; conv => whnf) | (apply QStep.go; conv => whnf) | (refine Need.mk (by first | omega | exact ⟨by omega, by omega⟩ | rfl | exact ⟨rfl, rfl⟩ | exact ⟨rfl, Nat.le_of_ble_eq_true rfl⟩) ?_; conv => whnf)))
            refine CallVC.auto err_k ⟨.inr rfl, ?_⟩
            (conv => whnf)
            (repeat (first | (exact Out.same; conv => whnf) | (exact Out1.same; conv => whnf) | (apply QStepH.go; conv => whnf) | (refine Both.lit_true ?_; conv => whnf) | (refine Both.lit_false ?_; conv => whnf) | (apply QStep.go; conv => whnf) | (refine Need.mk (by first | omega | exact ⟨by omega, by omega⟩ | rfl | exact ⟨rfl, rfl⟩ | exact ⟨rfl, Nat.le_of_ble_eq_true rfl⟩) ?_; conv => whnf)))
            (refine ⟨_, rfl, ?_⟩; conv => whnf)
            (repeat (first | (exact Out.same; conv => whnf) | (exact Out1.same; conv => whnf) | (apply QStepH.go; conv => whnf) | (refine Both.lit_true ?_; conv => whnf) | (refine Both.lit_false ?_; conv => whnf) | (apply QStep.go; conv => whnf) | (refine Need.mk (by first | omega | exact ⟨by omega, by omega⟩ | rfl | exact ⟨rfl, rfl⟩ | exact ⟨rfl, Nat.le_of_ble_eq_true rfl⟩) ?_; conv => whnf)))
            refine Both.dec_not (fun hx => absurd ?_ hx) (fun _ => ?_)
            · simp [doE, h0]
            (conv => whnf)
            (repeat (first | (exact Out.same; conv => whnf) | (exact Out1.same; conv => whnf) | (apply QStepH.go; conv => whnf) | (refine Both.lit_true ?_; conv => whnf) | (refine Both.lit_false ?_; conv => whnf) | (apply QStep.go; conv => whnf) | (refine Need.mk (by first | omega | exact ⟨by omega, by omega⟩ | rfl | exact ⟨rfl, rfl⟩ | exact ⟨rfl, Nat.le_of_ble_eq_true rfl⟩) ?_; conv => whnf)))
            (repeat (first | (exact Out.same; conv => whnf) | (exact Out1.same; conv => whnf) | (apply QStepH.go; conv => whnf) | (refine Both.lit_true ?_; conv => whnf) | (refine Both.lit_false ?_; conv => whnf) | (apply QStep.go; conv => whnf) | (refine Need.mk (by first | omega | exact ⟨by omega, by omega⟩ | rfl | exact ⟨rfl, rfl⟩ | exact ⟨rfl, by omega, by omega⟩ | exact ⟨by omega, by omega, by omega⟩ | exact ⟨rfl, Nat.le_of_ble_eq_true rfl⟩) ?_; conv => whnf) | (refine ⟨_, rfl, ?_⟩; conv => whnf) | (refine CallVC.auto end_k ?_; conv => whnf)))
            refine CallVC.auto mend_k ⟨a', rfl, ha', by omega, ?_⟩
            (conv => whnf)
            (repeat (first | (exact Out.same; conv => whnf) | (exact Out1.same; conv => whnf) | (apply QStepH.go; conv => whnf) | (refine Both.lit_true ?_; conv => whnf) | (refine Both.lit_false ?_; conv => whnf) | (apply QStep.go; conv => whnf) | (refine Need.mk (by first | omega | exact ⟨by omega, by omega⟩ | rfl | exact ⟨rfl, rfl⟩ | exact ⟨rfl, Nat.le_of_ble_eq_true rfl⟩) ?_; conv => whnf)))
            refine Both.dec_not (fun hx => absurd ?_ hx) (fun _ => ?_)
            · rw [hd]; simp [doE, doS, h0]
            (conv => whnf)
            (repeat (first | (exact Out.same; conv => whnf) | (exact Out1.same; conv => whnf) | (apply QStepH.go; conv => whnf) | (refine Both.lit_true ?_; conv => whnf) | (refine Both.lit_false ?_; conv => whnf) | (apply QStep.go; conv => whnf) | (refine Need.mk (by first | omega | exact ⟨by omega, by omega⟩ | rfl | exact ⟨rfl, rfl⟩ | exact ⟨rfl, Nat.le_of_ble_eq_true rfl⟩) ?_; conv => whnf)))
            refine ⟨(k + 1, a', doE c e (S.drop a)), ⟨by show k + 1 ≤ l.length; omega, ha'⟩, by show l.length - (k + 1) < l.length - k; omega, Weak.auto ?_⟩
            (repeat' ((conv => whnf); first | exact True.intro | (refine And.intro ?_ ?_)))
            all_goals first | rfl | exact congrArg (SV.int .i64) (by rw [wrap_i64 (by omega) (by omega)]; rfl) | exact .eq rfl | (rw [hd, show doE c e (S.drop a) = _ by simp only [doE, h0, if_true, if_false]; rfl, show doS c e (S.drop a) = _ by simp only [doS, h0, if_true, if_false]; rfl]; exact .eq rfl)
          (conv => whnf)
          refine Both.dec (fun h1 => ?_) (fun h1 => ?_)
          · (conv => whnf)
            (repeat (first | (refine ⟨_, hr, ?_⟩; conv => whnf) | (exact Out.same; conv => whnf) | (exact Out1.same; conv => whnf) | (apply QStepH.go; conv => whnf) | (refine Both.lit_true ?_; conv => whnf) | (refine Both.lit_false ?_; conv => whnf) | (apply QStep.go; conv => whnf) | (refine Need.mk (by first | omega | exact ⟨by omega, by omega⟩ | rfl | exact ⟨rfl, rfl⟩ | exact ⟨rfl, by omega, by omega⟩ | exact ⟨by omega, by omega, by omega⟩ | exact ⟨rfl, Nat.le_of_ble_eq_true rfl⟩) ?_; conv => whnf) | (refine ⟨_, rfl, ?_⟩; conv => whnf) | (refine CallVC.auto rnum_k ?_; conv => whnf)))
            refine CallVC.auto mdo_k ⟨a, c, rfl, rfl, rfl, ha, by omega, fun a' ha' hd => ?_⟩
            (conv => whnf)
            (refine DrawVC.all Γok (by kernel_rfl) (by kernel_rfl) ?_; conv => whnf)
            (repeat (first | (exact Out.same; conv => whnf) | (exact Out1.same; conv => whnf) | (apply QStepH.go; conv => whnf) | (refine Both.lit_true ?_; conv => whnf) | (refine Both.lit_false ?_; conv => whnf) | (apply QStep.go; conv => whnf) | (refine Need.mk (by first | omega | exact ⟨by omega, by omega⟩ | rfl | exact ⟨rfl, rfl⟩ | exact ⟨rfl, Nat.le_of_ble_eq_true rfl⟩) ?_; conv => whnf)))
            refine Both.dec_not (fun hx => absurd ?_ hx) (fun _ => ?_)
            · exact by simp [doV, h1]
            (conv => whnf)
            (repeat (first | (exact Out.same; conv => whnf) | (exact Out1.same; conv => whnf) | (apply QStepH.go; conv => whnf) | (refine Both.lit_true ?_; conv => whnf) | (refine Both.lit_false ?_; conv => whnf) | (apply QStep.go; conv => whnf) | (refine Need.mk (by first | omega | exact ⟨by omega, by omega⟩ | rfl | exact ⟨rfl, rfl⟩ | exact ⟨rfl, Nat.le_of_ble_eq_true rfl⟩) ?_; conv => whnf)))
            refine Both.dec_not (fun hx => absurd ?_ hx) (fun _ => ?_)
            · exact by simp [doT, h1]
            (conv => whnf)
            (repeat (first | (exact Out.same; conv => whnf) | (exact Out1.same; conv => whnf) | (apply QStepH.go; conv => whnf) | (refine Both.lit_true ?_; conv => whnf) | (refine Both.lit_false ?_; conv => whnf) | (apply QStep.go; conv => whnf) | (refine Need.mk (by first | omega | exact ⟨by omega, by omega⟩ | rfl | exact ⟨rfl, rfl⟩ | exact ⟨rfl, Nat.le_of_ble_eq_true rfl⟩) ?_; conv => whnf)))
            (repeat (first | (exact Out.same; conv => whnf) | (exact Out1.same; conv => whnf) | (apply QStepH.go; conv => whnf) | (refine Both.lit_true ?_; conv => whnf) | (refine Both.lit_false ?_; conv => whnf) | (apply QStep.go; conv => whnf) | (refine Need.mk (by first | omega | exact ⟨by omega, by omega⟩ | rfl | exact ⟨rfl, rfl⟩ | exact ⟨rfl, by omega, by omega⟩ | exact ⟨by omega, by omega, by omega⟩ | exact ⟨rfl, Nat.le_of_ble_eq_true rfl⟩) ?_; conv => whnf) | (refine ⟨_, rfl, ?_⟩; conv => whnf) | (refine CallVC.auto left_k ?_; conv => whnf)))
            refine CallVC.auto mleft_k ⟨a', rfl, ha', by omega, ?_⟩
            (conv => whnf)
            (repeat (first | (exact Out.same; conv => whnf) | (exact Out1.same; conv => whnf) | (apply QStepH.go; conv => whnf) | (refine Both.lit_true ?_; conv => whnf) | (refine Both.lit_false ?_; conv => whnf) | (apply QStep.go; conv => whnf) | (refine Need.mk (by first | omega | exact ⟨by omega, by omega⟩ | rfl | exact ⟨rfl, rfl⟩ | exact ⟨rfl, Nat.le_of_ble_eq_true rfl⟩) ?_; conv => whnf)))
            refine Both.dec_not (fun hx => absurd ?_ hx) (fun _ => ?_)
            · rw [hd]; simp [doE, doS, h1, Int.reduceEq]
            (conv => whnf)
            (repeat (first | (exact Out.same; conv => whnf) | (exact Out1.same; conv => whnf) | (apply QStepH.go; conv => whnf) | (refine Both.lit_true ?_; conv => whnf) | (refine Both.lit_false ?_; conv => whnf) | (apply QStep.go; conv => whnf) | (refine Need.mk (by first | omega | exact ⟨by omega, by omega⟩ | rfl | exact ⟨rfl, rfl⟩ | exact ⟨rfl, Nat.le_of_ble_eq_true rfl⟩) ?_; conv => whnf)))
            refine CallVC.auto err_k ⟨.inr rfl, ?_⟩
            (conv => whnf)
            (repeat (first | (exact Out.same; conv => whnf) | (exact Out1.same; conv => whnf) | (apply QStepH.go; conv => whnf) | (refine Both.lit_true ?_; conv => whnf) | (refine Both.lit_false ?_; conv => whnf) | (apply QStep.go; conv => whnf) | (refine Need.mk (by first | omega | exact ⟨by omega, by omega⟩ | rfl | exact ⟨rfl, rfl⟩ | exact ⟨rfl, Nat.le_of_ble_eq_true rfl⟩) ?_; conv => whnf)))
            (refine ⟨_, rfl, ?_⟩; conv => whnf)
            (repeat (first | (exact Out.same; conv => whnf) | (exact Out1.same; conv => whnf) | (apply QStepH.go; conv => whnf) | (refine Both.lit_true ?_; conv => whnf) | (refine Both.lit_false ?_; conv => whnf) | (apply QStep.go; conv => whnf) | (refine Need.mk (by first | omega | exact ⟨by omega, by omega⟩ | rfl | exact ⟨rfl, rfl⟩ | exact ⟨rfl, Nat.le_of_ble_eq_true rfl⟩) ?_; conv => whnf)))
            refine Both.dec_not (fun hx => absurd ?_ hx) (fun _ => ?_)
            · simp [doE, h1, Int.reduceEq]
            (conv => whnf)
            (repeat (first | (exact Out.same; conv => whnf) | (exact Out1.same; conv => whnf) | (apply QStepH.go; conv => whnf) | (refine Both.lit_true ?_; conv => whnf) | (refine Both.lit_false ?_; conv => whnf) | (apply QStep.go; conv => whnf) | (refine Need.mk (by first | omega | exact ⟨by omega, by omega⟩ | rfl | exact ⟨rfl, rfl⟩ | exact ⟨rfl, Nat.le_of_ble_eq_true rfl⟩) ?_; conv => whnf)))
            (repeat (first | (exact Out.same; conv => whnf) | (exact Out1.same; conv => whnf) | (apply QStepH.go; conv => whnf) | (refine Both.lit_true ?_; conv => whnf) | (refine Both.lit_false ?_; conv => whnf) | (apply QStep.go; conv => whnf) | (refine Need.mk (by first | omega | exact ⟨by omega, by omega⟩ | rfl | exact ⟨rfl, rfl⟩ | exact ⟨rfl, by omega, by omega⟩ | exact ⟨by omega, by omega, by omega⟩ | exact ⟨rfl, Nat.le_of_ble_eq_true rfl⟩) ?_; conv => whnf) | (refine ⟨_, rfl, ?_⟩; conv => whnf) | (refine CallVC.auto end_k ?_; conv => whnf)))
            refine CallVC.auto mend_k ⟨a', rfl, ha', by omega, ?_⟩
            (conv => whnf)
            (repeat (first | (exact Out.same; conv => whnf) | (exact Out1.same; conv => whnf) | (apply QStepH.go; conv => whnf) | (refine Both.lit_true ?_; conv => whnf) | (refine Both.lit_false ?_; conv => whnf) | (apply QStep.go; conv => whnf) | (refine Need.mk (by first | omega | exact ⟨by omega, by omega⟩ | rfl | exact ⟨rfl, rfl⟩ | exact ⟨rfl, Nat.le_of_ble_eq_true rfl⟩) ?_; conv => whnf)))
            refine Both.dec_not (fun hx => absurd ?_ hx) (fun _ => ?_)
            · rw [hd]; simp [doE, doS, h1, Int.reduceEq]
            (conv => whnf)
            (repeat (first | (exact Out.same; conv => whnf) | (exact Out1.same; conv => whnf) | (apply QStepH.go; conv => whnf) | (refine Both.lit_true ?_; conv => whnf) | (refine Both.lit_false ?_; conv => whnf) | (apply QStep.go; conv => whnf) | (refine Need.mk (by first | omega | exact ⟨by omega, by omega⟩ | rfl | exact ⟨rfl, rfl⟩ | exact ⟨rfl, Nat.le_of_ble_eq_true rfl⟩) ?_; conv => whnf)))
            refine ⟨(k + 1, a', doE c e (S.drop a)), ⟨by show k + 1 ≤ l.length; omega, ha'⟩, by show l.length - (k + 1) < l.length - k; omega, Weak.auto ?_⟩
            (repeat' ((conv => whnf); first | exact True.intro | (refine And.intro ?_ ?_)))
            all_goals first | rfl | exact congrArg (SV.int .i64) (by rw [wrap_i64 (by omega) (by omega)]; rfl) | exact .eq rfl | (rw [hd, show doE c e (S.drop a) = _ by simp only [doE, h1, Int.reduceEq, if_true, if_false]; rfl, show doS c e (S.drop a) = _ by simp only [doS, h1, Int.reduceEq, if_true, if_false]; rfl]; exact .eq rfl)
          (conv => whnf)
          refine Both.dec (fun h2 => ?_) (fun h2 => ?_)
          · (conv => whnf)
            (repeat (first | (refine ⟨_, hr, ?_⟩; conv => whnf) | (exact Out.same; conv => whnf) | (exact Out1.same; conv => whnf) | (apply QStepH.go; conv => whnf) | (refine Both.lit_true ?_; conv => whnf) | (refine Both.lit_false ?_; conv => whnf) | (apply QStep.go; conv => whnf) | (refine Need.mk (by first | omega | exact ⟨by omega, by omega⟩ | rfl | exact ⟨rfl, rfl⟩ | exact ⟨rfl, by omega, by omega⟩ | exact ⟨by omega, by omega, by omega⟩ | exact ⟨rfl, Nat.le_of_ble_eq_true rfl⟩) ?_; conv => whnf) | (refine ⟨_, rfl, ?_⟩; conv => whnf) | (refine CallVC.auto rtext_k ?_; conv => whnf)))
            refine CallVC.auto mdo_k ⟨a, c, rfl, rfl, rfl, ha, by omega, fun a' ha' hd => ?_⟩
            (conv => whnf)
            (refine DrawVC.all Γok (by kernel_rfl) (by kernel_rfl) ?_; conv => whnf)
            (repeat (first | (exact Out.same; conv => whnf) | (exact Out1.same; conv => whnf) | (apply QStepH.go; conv => whnf) | (refine Both.lit_true ?_; conv => whnf) | (refine Both.lit_false ?_; conv => whnf) | (apply QStep.go; conv => whnf) | (refine Need.mk (by first | omega | exact ⟨by omega, by omega⟩ | rfl | exact ⟨rfl, rfl⟩ | exact ⟨rfl, Nat.le_of_ble_eq_true rfl⟩) ?_; conv => whnf)))
            refine Both.dec_not (fun hx => absurd ?_ hx) (fun _ => ?_)
            · exact by simp [doV, h2]
            (conv => whnf)
            (repeat (first | (exact Out.same; conv => whnf) | (exact Out1.same; conv => whnf) | (apply QStepH.go; conv => whnf) | (refine Both.lit_true ?_; conv => whnf) | (refine Both.lit_false ?_; conv => whnf) | (apply QStep.go; conv => whnf) | (refine Need.mk (by first | omega | exact ⟨by omega, by omega⟩ | rfl | exact ⟨rfl, rfl⟩ | exact ⟨rfl, Nat.le_of_ble_eq_true rfl⟩) ?_; conv => whnf)))
            refine Both.dec_not (fun hx => absurd ?_ hx) (fun _ => ?_)
            · exact by simp [doT, h2]
            (conv => whnf)
            (repeat (first | (exact Out.same; conv => whnf) | (exact Out1.same; conv => whnf) | (apply QStepH.go; conv => whnf) | (refine Both.lit_true ?_; conv => whnf) | (refine Both.lit_false ?_; conv => whnf) | (apply QStep.go; conv => whnf) | (refine Need.mk (by first | omega | exact ⟨by omega, by omega⟩ | rfl | exact ⟨rfl, rfl⟩ | exact ⟨rfl, Nat.le_of_ble_eq_true rfl⟩) ?_; conv => whnf)))
            (repeat (first | (exact Out.same; conv => whnf) | (exact Out1.same; conv => whnf) | (apply QStepH.go; conv => whnf) | (refine Both.lit_true ?_; conv => whnf) | (refine Both.lit_false ?_; conv => whnf) | (apply QStep.go; conv => whnf) | (refine Need.mk (by first | omega | exact ⟨by omega, by omega⟩ | rfl | exact ⟨rfl, rfl⟩ | exact ⟨rfl, by omega, by omega⟩ | exact ⟨by omega, by omega, by omega⟩ | exact ⟨rfl, Nat.le_of_ble_eq_true rfl⟩) ?_; conv => whnf) | (refine ⟨_, rfl, ?_⟩; conv => whnf) | (refine CallVC.auto left_k ?_; conv => whnf)))
            refine CallVC.auto mleft_k ⟨a', rfl, ha', by omega, ?_⟩
            (conv => whnf)
            (repeat (first | (exact Out.same; conv => whnf) | (exact Out1.same; conv => whnf) | (apply QStepH.go; conv => whnf) | (refine Both.lit_true ?_; conv => whnf) | (refine Both.lit_false ?_; conv => whnf) | (apply QStep.go; conv => whnf) | (refine Need.mk (by first | omega | exact ⟨by omega, by omega⟩ | rfl | exact ⟨rfl, rfl⟩ | exact ⟨rfl, Nat.le_of_ble_eq_true rfl⟩) ?_; conv => whnf)))
            refine Both.dec_not (fun hx => absurd ?_ hx) (fun _ => ?_)
            · rw [hd]; simp [doE, doS, h2, Int.reduceEq]
            (conv => whnf)
            (repeat (first | (exact Out.same; conv => whnf) | (exact Out1.same; conv => whnf) | (apply QStepH.go; conv => whnf) | (refine Both.lit_true ?_; conv => whnf) | (refine Both.lit_false ?_; conv => whnf) | (apply QStep.go; conv => whnf) | (refine Need.mk (by first | omega | exact ⟨by omega, by omega⟩ | rfl | exact ⟨rfl, rfl⟩ | exact ⟨rfl, Nat.le_of_ble_eq_true rfl⟩) ?_; conv => whnf)))
            refine CallVC.auto err_k ⟨.inr rfl, ?_⟩
            (conv => whnf)
            (repeat (first | (exact Out.same; conv => whnf) | (exact Out1.same; conv => whnf) | (apply QStepH.go; conv => whnf) | (refine Both.lit_true ?_; conv => whnf) | (refine Both.lit_false ?_; conv => whnf) | (apply QStep.go; conv => whnf) | (refine Need.mk (by first | omega | exact ⟨by omega, by omega⟩ | rfl | exact ⟨rfl, rfl⟩ | exact ⟨rfl, Nat.le_of_ble_eq_true rfl⟩) ?_; conv => whnf)))
            (refine ⟨_, rfl, ?_⟩; conv => whnf)
            (repeat (first | (exact Out.same; conv => whnf) | (exact Out1.same; conv => whnf) | (apply QStepH.go; conv => whnf) | (refine Both.lit_true ?_; conv => whnf) | (refine Both.lit_false ?_; conv => whnf) | (apply QStep.go; conv => whnf) | (refine Need.mk (by first | omega | exact ⟨by omega, by omega⟩ | rfl | exact ⟨rfl, rfl⟩ | exact ⟨rfl, Nat.le_of_ble_eq_true rfl⟩) ?_; conv => whnf)))
            refine Both.dec_not (fun hx => absurd ?_ hx) (fun _ => ?_)
            · simp [doE, h2, Int.reduceEq]
            (conv => whnf)
            (repeat (first | (exact Out.same; conv => whnf) | (exact Out1.same; conv => whnf) | (apply QStepH.go; conv => whnf) | (refine Both.lit_true ?_; conv => whnf) | (refine Both.lit_false ?_; conv => whnf) | (apply QStep.go; conv => whnf) | (refine Need.mk (by first | omega | exact ⟨by omega, by omega⟩ | rfl | exact ⟨rfl, rfl⟩ | exact ⟨rfl, Nat.le_of_ble_eq_true rfl⟩) ?_; conv => whnf)))
            (repeat (first | (exact Out.same; conv => whnf) | (exact Out1.same; conv => whnf) | (apply QStepH.go; conv => whnf) | (refine Both.lit_true ?_; conv => whnf) | (refine Both.lit_false ?_; conv => whnf) | (apply QStep.go; conv => whnf) | (refine Need.mk (by first | omega | exact ⟨by omega, by omega⟩ | rfl | exact ⟨rfl, rfl⟩ | exact ⟨rfl, by omega, by omega⟩ | exact ⟨by omega, by omega, by omega⟩ | exact ⟨rfl, Nat.le_of_ble_eq_true rfl⟩) ?_; conv => whnf) | (refine ⟨_, rfl, ?_⟩; conv => whnf) | (refine CallVC.auto end_k ?_; conv => whnf)))
            refine CallVC.auto mend_k ⟨a', rfl, ha', by omega, ?_⟩
            (conv => whnf)
            (repeat (first | (exact Out.same; conv => whnf) | (exact Out1.same; conv => whnf) | (apply QStepH.go; conv => whnf) | (refine Both.lit_true ?_; conv => whnf) | (refine Both.lit_false ?_; conv => whnf) | (apply QStep.go; conv => whnf) | (refine Need.mk (by first | omega | exact ⟨by omega, by omega⟩ | rfl | exact ⟨rfl, rfl⟩ | exact ⟨rfl, Nat.le_of_ble_eq_true rfl⟩) ?_; conv => whnf)))
            refine Both.dec_not (fun hx => absurd ?_ hx) (fun _ => ?_)
            · rw [hd]; simp [doE, doS, h2, Int.reduceEq]
            (conv => whnf)
            (repeat (first | (exact Out.same; conv => whnf) | (exact Out1.same; conv => whnf) | (apply QStepH.go; conv => whnf) | (refine Both.lit_true ?_; conv => whnf) | (refine Both.lit_false ?_; conv => whnf) | (apply QStep.go; conv => whnf) | (refine Need.mk (by first | omega | exact ⟨by omega, by omega⟩ | rfl | exact ⟨rfl, rfl⟩ | exact ⟨rfl, Nat.le_of_ble_eq_true rfl⟩) ?_; conv => whnf)))
            refine ⟨(k + 1, a', doE c e (S.drop a)), ⟨by show k + 1 ≤ l.length; omega, ha'⟩, by show l.length - (k + 1) < l.length - k; omega, Weak.auto ?_⟩
            (repeat' ((conv => whnf); first | exact True.intro | (refine And.intro ?_ ?_)))
            all_goals first | rfl | exact congrArg (SV.int .i64) (by rw [wrap_i64 (by omega) (by omega)]; rfl) | exact .eq rfl | (rw [hd, show doE c e (S.drop a) = _ by simp only [doE, h2, Int.reduceEq, if_true, if_false]; rfl, show doS c e (S.drop a) = _ by simp only [doS, h2, Int.reduceEq, if_true, if_false]; rfl]; exact .eq rfl)
          (conv => whnf)
          refine Both.dec (fun h3 => ?_) (fun h3 => ?_)
          · (conv => whnf)
            (repeat (first | (refine ⟨_, hr, ?_⟩; conv => whnf) | (refine CallVC.auto rraw_k ⟨by omega, ?_⟩; conv => whnf) | (exact Out.same; conv => whnf) | (exact Out1.same; conv => whnf) | (apply QStepH.go; conv => whnf) | (refine Both.lit_true ?_; conv => whnf) | (refine Both.lit_false ?_; conv => whnf) | (apply QStep.go; conv => whnf) | (refine Need.mk (by first | omega | exact ⟨by omega, by omega⟩ | rfl | exact ⟨rfl, rfl⟩ | exact ⟨rfl, by omega, by omega⟩ | exact ⟨by omega, by omega, by omega⟩ | exact ⟨rfl, Nat.le_of_ble_eq_true rfl⟩) ?_; conv => whnf) | (refine ⟨_, rfl, ?_⟩; conv => whnf)))
            refine CallVC.auto mdo_k ⟨a, c, rfl, rfl, rfl, ha, by omega, fun a' ha' hd => ?_⟩
            (conv => whnf)
            (refine DrawVC.all Γok (by kernel_rfl) (by kernel_rfl) ?_; conv => whnf)
            (repeat (first | (exact Out.same; conv => whnf) | (exact Out1.same; conv => whnf) | (apply QStepH.go; conv => whnf) | (refine Both.lit_true ?_; conv => whnf) | (refine Both.lit_false ?_; conv => whnf) | (apply QStep.go; conv => whnf) | (refine Need.mk (by first | omega | exact ⟨by omega, by omega⟩ | rfl | exact ⟨rfl, rfl⟩ | exact ⟨rfl, Nat.le_of_ble_eq_true rfl⟩) ?_; conv => whnf)))
            refine Both.dec_not (fun hx => absurd ?_ hx) (fun _ => ?_)
            · exact by simp [doV, h3]
            (conv => whnf)
            (repeat (first | (exact Out.same; conv => whnf) | (exact Out1.same; conv => whnf) | (apply QStepH.go; conv => whnf) | (refine Both.lit_true ?_; conv => whnf) | (refine Both.lit_false ?_; conv => whnf) | (apply QStep.go; conv => whnf) | (refine Need.mk (by first | omega | exact ⟨by omega, by omega⟩ | rfl | exact ⟨rfl, rfl⟩ | exact ⟨rfl, Nat.le_of_ble_eq_true rfl⟩) ?_; conv => whnf)))
            refine Both.dec_not (fun hx => absurd ?_ hx) (fun _ => ?_)
            · exact by simp [doT, h3]
            (conv => whnf)
            (repeat (first | (exact Out.same; conv => whnf) | (exact Out1.same; conv => whnf) | (apply QStepH.go; conv => whnf) | (refine Both.lit_true ?_; conv => whnf) | (refine Both.lit_false ?_; conv => whnf) | (apply QStep.go; conv => whnf) | (refine Need.mk (by first | omega | exact ⟨by omega, by omega⟩ | rfl | exact ⟨rfl, rfl⟩ | exact ⟨rfl, Nat.le_of_ble_eq_true rfl⟩) ?_; conv => whnf)))
            (repeat (first | (exact Out.same; conv => whnf) | (exact Out1.same; conv => whnf) | (apply QStepH.go; conv => whnf) | (refine Both.lit_true ?_; conv => whnf) | (refine Both.lit_false ?_; conv => whnf) | (apply QStep.go; conv => whnf) | (refine Need.mk (by first | omega | exact ⟨by omega, by omega⟩ | rfl | exact ⟨rfl, rfl⟩ | exact ⟨rfl, by omega, by omega⟩ | exact ⟨by omega, by omega, by omega⟩ | exact ⟨rfl, Nat.le_of_ble_eq_true rfl⟩) ?_; conv => whnf) | (refine ⟨_, rfl, ?_⟩; conv => whnf) | (refine CallVC.auto left_k ?_; conv => whnf)))
            refine CallVC.auto mleft_k ⟨a', rfl, ha', by omega, ?_⟩
            (conv => whnf)
            (repeat (first | (exact Out.same; conv => whnf) | (exact Out1.same; conv => whnf) | (apply QStepH.go; conv => whnf) | (refine Both.lit_true ?_; conv => whnf) | (refine Both.lit_false ?_; conv => whnf) | (apply QStep.go; conv => whnf) | (refine Need.mk (by first | omega | exact ⟨by omega, by omega⟩ | rfl | exact ⟨rfl, rfl⟩ | exact ⟨rfl, Nat.le_of_ble_eq_true rfl⟩) ?_; conv => whnf)))
            refine Both.dec_not (fun hx => absurd ?_ hx) (fun _ => ?_)
            · rw [hd]; simp [doE, doS, h3, Int.reduceEq]
            (conv => whnf)
            (repeat (first | (exact Out.same; conv => whnf) | (exact Out1.same; conv => whnf) | (apply QStepH.go; conv => whnf) | (refine Both.lit_true ?_; conv => whnf) | (refine Both.lit_false ?_; conv => whnf) | (apply QStep.go; conv => whnf) | (refine Need.mk (by first | omega | exact ⟨by omega, by omega⟩ | rfl | exact ⟨rfl, rfl⟩ | exact ⟨rfl, Nat.le_of_ble_eq_true rfl⟩) ?_; conv => whnf)))
            refine CallVC.auto err_k ⟨.inr rfl, ?_⟩
            (conv => whnf)
            (repeat (first | (exact Out.same; conv => whnf) | (exact Out1.same; conv => whnf) | (apply QStepH.go; conv => whnf) | (refine Both.lit_true ?_; conv => whnf) | (refine Both.lit_false ?_; conv => whnf) | (apply QStep.go; conv => whnf) | (refine Need.mk (by first | omega | exact ⟨by omega, by omega⟩ | rfl | exact ⟨rfl, rfl⟩ | exact ⟨rfl, Nat.le_of_ble_eq_true rfl⟩) ?_; conv => whnf)))
            (refine ⟨_, rfl, ?_⟩; conv => whnf)
            (repeat (first | (exact Out.same; conv => whnf) | (exact Out1.same; conv => whnf) | (apply QStepH.go; conv => whnf) | (refine Both.lit_true ?_; conv => whnf) | (refine Both.lit_false ?_; conv => whnf) | (apply QStep.go; conv => whnf) | (refine Need.mk (by first | omega | exact ⟨by omega, by omega⟩ | rfl | exact ⟨rfl, rfl⟩ | exact ⟨rfl, Nat.le_of_ble_eq_true rfl⟩) ?_; conv => whnf)))
            refine Both.dec_not (fun hx => absurd ?_ hx) (fun _ => ?_)
            · simp [doE, h3, Int.reduceEq]
            (conv => whnf)
            (repeat (first | (exact Out.same; conv => whnf) | (exact Out1.same; conv => whnf) | (apply QStepH.go; conv => whnf) | (refine Both.lit_true ?_; conv => whnf) | (refine Both.lit_false ?_; conv => whnf) | (apply QStep.go; conv => whnf) | (refine Need.mk (by first | omega | exact ⟨by omega, by omega⟩ | rfl | exact ⟨rfl, rfl⟩ | exact ⟨rfl, Nat.le_of_ble_eq_true rfl⟩) ?_; conv => whnf)))
            (repeat (first | (exact Out.same; conv => whnf) | (exact Out1.same; conv => whnf) | (apply QStepH.go; conv => whnf) | (refine Both.lit_true ?_; conv => whnf) | (refine Both.lit_false ?_; conv => whnf) | (apply QStep.go; conv => whnf) | (refine Need.mk (by first | omega | exact ⟨by omega, by omega⟩ | rfl | exact ⟨rfl, rfl⟩ | exact ⟨rfl, by omega, by omega⟩ | exact ⟨by omega, by omega, by omega⟩ | exact ⟨rfl, Nat.le_of_ble_eq_true rfl⟩) ?_; conv => whnf) | (refine ⟨_, rfl, ?_⟩; conv => whnf) | (refine CallVC.auto end_k ?_; conv => whnf)))
            refine CallVC.auto mend_k ⟨a', rfl, ha', by omega, ?_⟩
            (conv => whnf)
            (repeat (first | (exact Out.same; conv => whnf) | (exact Out1.same; conv => whnf) | (apply QStepH.go; conv => whnf) | (refine Both.lit_true ?_; conv => whnf) | (refine Both.lit_false ?_; conv => whnf) | (apply QStep.go; conv => whnf) | (refine Need.mk (by first | omega | exact ⟨by omega, by omega⟩ | rfl | exact ⟨rfl, rfl⟩ | exact ⟨rfl, Nat.le_of_ble_eq_true rfl⟩) ?_; conv => whnf)))
            refine Both.dec_not (fun hx => absurd ?_ hx) (fun _ => ?_)
            · rw [hd]; simp [doE, doS, h3, Int.reduceEq]
            (conv => whnf)
            (repeat (first | (exact Out.same; conv => whnf) | (exact Out1.same; conv => whnf) | (apply QStepH.go; conv => whnf) | (refine Both.lit_true ?_; conv => whnf) | (refine Both.lit_false ?_; conv => whnf) | (apply QStep.go; conv => whnf) | (refine Need.mk (by first | omega | exact ⟨by omega, by omega⟩ | rfl | exact ⟨rfl, rfl⟩ | exact ⟨rfl, Nat.le_of_ble_eq_true rfl⟩) ?_; conv => whnf)))
            refine ⟨(k + 1, a', doE c e (S.drop a)), ⟨by show k + 1 ≤ l.length; omega, ha'⟩, by show l.length - (k + 1) < l.length - k; omega, Weak.auto ?_⟩
            (repeat' ((conv => whnf); first | exact True.intro | (refine And.intro ?_ ?_)))
            all_goals first | rfl | exact congrArg (SV.int .i64) (by rw [wrap_i64 (by omega) (by omega)]; rfl) | exact .eq rfl | (rw [hd, show doE c e (S.drop a) = _ by simp only [doE, h3, Int.reduceEq, if_true, if_false]; rfl, show doS c e (S.drop a) = _ by simp only [doS, h3, Int.reduceEq, if_true, if_false]; rfl]; exact .eq rfl)
          (conv => whnf)
          · (conv => whnf)
            (refine DrawVC.any Γok (by kernel_rfl) (by kernel_rfl) (by kernel_rfl) ?_; conv => whnf)
            (repeat (first | (refine ⟨_, hr, ?_⟩; conv => whnf) | (refine CallVC.auto fail_k ⟨.inr rfl, ?_⟩; conv => whnf) | (exact Out.same; conv => whnf) | (exact Out1.same; conv => whnf) | (apply QStepH.go; conv => whnf) | (refine Both.lit_true ?_; conv => whnf) | (refine Both.lit_false ?_; conv => whnf) | (apply QStep.go; conv => whnf) | (refine Need.mk (by first | omega | exact ⟨by omega, by omega⟩ | rfl | exact ⟨rfl, rfl⟩ | exact ⟨rfl, by omega, by omega⟩ | exact ⟨by omega, by omega, by omega⟩ | exact ⟨rfl, Nat.le_of_ble_eq_true rfl⟩) ?_; conv => whnf) | (refine ⟨_, rfl, ?_⟩; conv => whnf)))
            refine CallVC.auto mdo_k ⟨a, c, rfl, rfl, rfl, ha, by omega, fun a' ha' hd => ?_⟩
            (conv => whnf)
            (refine DrawVC.all Γok (by kernel_rfl) (by kernel_rfl) ?_; conv => whnf)
            (repeat (first | (exact Out.same; conv => whnf) | (exact Out1.same; conv => whnf) | (apply QStepH.go; conv => whnf) | (refine Both.lit_true ?_; conv => whnf) | (refine Both.lit_false ?_; conv => whnf) | (apply QStep.go; conv => whnf) | (refine Need.mk (by first | omega | exact ⟨by omega, by omega⟩ | rfl | exact ⟨rfl, rfl⟩ | exact ⟨rfl, Nat.le_of_ble_eq_true rfl⟩) ?_; conv => whnf)))
            refine Both.dec_not (fun hx => absurd ?_ hx) (fun _ => ?_)
            · exact by simp [doV, h0, h1, h2, h3]
            (conv => whnf)
            (repeat (first | (exact Out.same; conv => whnf) | (exact Out1.same; conv => whnf) | (apply QStepH.go; conv => whnf) | (refine Both.lit_true ?_; conv => whnf) | (refine Both.lit_false ?_; conv => whnf) | (apply QStep.go; conv => whnf) | (refine Need.mk (by first | omega | exact ⟨by omega, by omega⟩ | rfl | exact ⟨rfl, rfl⟩ | exact ⟨rfl, Nat.le_of_ble_eq_true rfl⟩) ?_; conv => whnf)))
            refine Both.dec_not (fun hx => absurd ?_ hx) (fun _ => ?_)
            · exact by simp [doT, h0, h1, h2, h3]
            (conv => whnf)
            (repeat (first | (exact Out.same; conv => whnf) | (exact Out1.same; conv => whnf) | (apply QStepH.go; conv => whnf) | (refine Both.lit_true ?_; conv => whnf) | (refine Both.lit_false ?_; conv => whnf) | (apply QStep.go; conv => whnf) | (refine Need.mk (by first | omega | exact ⟨by omega, by omega⟩ | rfl | exact ⟨rfl, rfl⟩ | exact ⟨rfl, Nat.le_of_ble_eq_true rfl⟩) ?_; conv => whnf)))
            (repeat (first | (exact Out.same; conv => whnf) | (exact Out1.same; conv => whnf) | (apply QStepH.go; conv => whnf) | (refine Both.lit_true ?_; conv => whnf) | (refine Both.lit_false ?_; conv => whnf) | (apply QStep.go; conv => whnf) | (refine Need.mk (by first | omega | exact ⟨by omega, by omega⟩ | rfl | exact ⟨rfl, rfl⟩ | exact ⟨rfl, by omega, by omega⟩ | exact ⟨by omega, by omega, by omega⟩ | exact ⟨rfl, Nat.le_of_ble_eq_true rfl⟩) ?_; conv => whnf) | (refine ⟨_, rfl, ?_⟩; conv => whnf) | (refine CallVC.auto left_k ?_; conv => whnf)))
            refine CallVC.auto mleft_k ⟨a', rfl, ha', by omega, ?_⟩
            (conv => whnf)
            (repeat (first | (exact Out.same; conv => whnf) | (exact Out1.same; conv => whnf) | (apply QStepH.go; conv => whnf) | (refine Both.lit_true ?_; conv => whnf) | (refine Both.lit_false ?_; conv => whnf) | (apply QStep.go; conv => whnf) | (refine Need.mk (by first | omega | exact ⟨by omega, by omega⟩ | rfl | exact ⟨rfl, rfl⟩ | exact ⟨rfl, Nat.le_of_ble_eq_true rfl⟩) ?_; conv => whnf)))
            refine Both.dec_not (fun hx => absurd ?_ hx) (fun _ => ?_)
            · rw [hd]; simp [doE, doS, h0, h1, h2, h3]
            (conv => whnf)
            (repeat (first | (exact Out.same; conv => whnf) | (exact Out1.same; conv => whnf) | (apply QStepH.go; conv => whnf) | (refine Both.lit_true ?_; conv => whnf) | (refine Both.lit_false ?_; conv => whnf) | (apply QStep.go; conv => whnf) | (refine Need.mk (by first | omega | exact ⟨by omega, by omega⟩ | rfl | exact ⟨rfl, rfl⟩ | exact ⟨rfl, Nat.le_of_ble_eq_true rfl⟩) ?_; conv => whnf)))
            refine CallVC.auto err_k ⟨.inr rfl, ?_⟩
            (conv => whnf)
            (repeat (first | (exact Out.same; conv => whnf) | (exact Out1.same; conv => whnf) | (apply QStepH.go; conv => whnf) | (refine Both.lit_true ?_; conv => whnf) | (refine Both.lit_false ?_; conv => whnf) | (apply QStep.go; conv => whnf) | (refine Need.mk (by first | omega | exact ⟨by omega, by omega⟩ | rfl | exact ⟨rfl, rfl⟩ | exact ⟨rfl, Nat.le_of_ble_eq_true rfl⟩) ?_; conv => whnf)))
            (refine ⟨_, rfl, ?_⟩; conv => whnf)
            (repeat (first | (exact Out.same; conv => whnf) | (exact Out1.same; conv => whnf) | (apply QStepH.go; conv => whnf) | (refine Both.lit_true ?_; conv => whnf) | (refine Both.lit_false ?_; conv => whnf) | (apply QStep.go; conv => whnf) | (refine Need.mk (by first | omega | exact ⟨by omega, by omega⟩ | rfl | exact ⟨rfl, rfl⟩ | exact ⟨rfl, Nat.le_of_ble_eq_true rfl⟩) ?_; conv => whnf)))
            refine Both.dec_not (fun hx => absurd ?_ hx) (fun _ => ?_)
            · simp [doE, h0, h1, h2, h3]
            (conv => whnf)
            (repeat (first | (exact Out.same; conv => whnf) | (exact Out1.same; conv => whnf) | (apply QStepH.go; conv => whnf) | (refine Both.lit_true ?_; conv => whnf) | (refine Both.lit_false ?_; conv => whnf) | (apply QStep.go; conv => whnf) | (refine Need.mk (by first | omega | exact ⟨by omega, by omega⟩ | rfl | exact ⟨rfl, rfl⟩ | exact ⟨rfl, Nat.le_of_ble_eq_true rfl⟩) ?_; conv => whnf)))
            (repeat (first | (exact Out.same; conv => whnf) | (exact Out1.same; conv => whnf) | (apply QStepH.go; conv => whnf) | (refine Both.lit_true ?_; conv => whnf) | (refine Both.lit_false ?_; conv => whnf) | (apply QStep.go; conv => whnf) | (refine Need.mk (by first | omega | exact ⟨by omega, by omega⟩ | rfl | exact ⟨rfl, rfl⟩ | exact ⟨rfl, by omega, by omega⟩ | exact ⟨by omega, by omega, by omega⟩ | exact ⟨rfl, Nat.le_of_ble_eq_true rfl⟩) ?_; conv => whnf) | (refine ⟨_, rfl, ?_⟩; conv => whnf) | (refine CallVC.auto end_k ?_; conv => whnf)))
            refine CallVC.auto mend_k ⟨a', rfl, ha', by omega, ?_⟩
            (conv => whnf)
            (repeat (first | (exact Out.same; conv => whnf) | (exact Out1.same; conv => whnf) | (apply QStepH.go; conv => whnf) | (refine Both.lit_true ?_; conv => whnf) | (refine Both.lit_false ?_; conv => whnf) | (apply QStep.go; conv => whnf) | (refine Need.mk (by first | omega | exact ⟨by omega, by omega⟩ | rfl | exact ⟨rfl, rfl⟩ | exact ⟨rfl, Nat.le_of_ble_eq_true rfl⟩) ?_; conv => whnf)))
            refine Both.dec_not (fun hx => absurd ?_ hx) (fun _ => ?_)
            · rw [hd]; simp [doE, doS, h0, h1, h2, h3]
            (conv => whnf)
            (repeat (first | (exact Out.same; conv => whnf) | (exact Out1.same; conv => whnf) | (apply QStepH.go; conv => whnf) | (refine Both.lit_true ?_; conv => whnf) | (refine Both.lit_false ?_; conv => whnf) | (apply QStep.go; conv => whnf) | (refine Need.mk (by first | omega | exact ⟨by omega, by omega⟩ | rfl | exact ⟨rfl, rfl⟩ | exact ⟨rfl, Nat.le_of_ble_eq_true rfl⟩) ?_; conv => whnf)))
            refine ⟨(k + 1, a', doE c e (S.drop a)), ⟨by show k + 1 ≤ l.length; omega, ha'⟩, by show l.length - (k + 1) < l.length - k; omega, Weak.auto ?_⟩
            (repeat' ((conv => whnf); first | exact True.intro | (refine And.intro ?_ ?_)))
            all_goals first | rfl | exact congrArg (SV.int .i64) (by rw [wrap_i64 (by omega) (by omega)]; rfl) | exact .eq rfl | (rw [hd, show doE c e (S.drop a) = _ by simp only [doE, h0, h1, h2, h3, if_true, if_false]; rfl, show doS c e (S.drop a) = _ by simp only [doS, h0, h1, h2, h3, if_true, if_false]; rfl]; exact .eq rfl)
        · obtain rfl : k = l.length := by have : ¬ (k : Int) < l.length := hge; omega
          have hsl : (S.drop a).length < 1000000 := by rw [List.length_drop]; omega
          (conv => whnf)
          (repeat (first | (exact Out.same; conv => whnf) | (exact Out1.same; conv => whnf) | (apply QStepH.go; conv => whnf) | (refine Both.lit_true ?_; conv => whnf) | (refine Both.lit_false ?_; conv => whnf) | (apply QStep.go; conv => whnf) | (refine Need.mk (by first | omega | exact ⟨by omega, by omega⟩ | rfl | exact ⟨rfl, rfl⟩ | exact ⟨rfl, by omega, by omega⟩ | exact ⟨by omega, by omega, by omega⟩ | exact ⟨rfl, Nat.le_of_ble_eq_true rfl⟩) ?_; conv => whnf) | (refine ⟨_, rfl, ?_⟩; conv => whnf) | (refine CallVC.auto left_k ?_; conv => whnf)))
          refine CallVC.auto mleft_k ⟨a, rfl, ha, by omega, ?_⟩
          (conv => whnf)
          refine Both.sure rfl ?_
          (conv => whnf)
          (repeat (first | (exact Out.same; conv => whnf) | (exact Out1.same; conv => whnf) | (apply QStepH.go; conv => whnf) | (refine Both.lit_true ?_; conv => whnf) | (refine Both.lit_false ?_; conv => whnf) | (apply QStep.go; conv => whnf) | (refine Need.mk (by first | omega | exact ⟨by omega, by omega⟩ | rfl | exact ⟨rfl, rfl⟩ | exact ⟨rfl, by omega, by omega⟩ | exact ⟨by omega, by omega, by omega⟩ | exact ⟨rfl, Nat.le_of_ble_eq_true rfl⟩) ?_; conv => whnf) | (refine ⟨_, rfl, ?_⟩; conv => whnf) | (refine CallVC.auto end_k ?_; conv => whnf)))
          refine CallVC.auto mend_k ⟨a, rfl, ha, by omega, ?_⟩
          (conv => whnf)
          (repeat (first | (exact Out.same; conv => whnf) | (exact Out1.same; conv => whnf) | (apply QStepH.go; conv => whnf) | (refine Both.lit_true ?_; conv => whnf) | (refine Both.lit_false ?_; conv => whnf) | (apply QStep.go; conv => whnf) | (refine Need.mk (by first | omega | exact ⟨by omega, by omega⟩ | rfl | exact ⟨rfl, rfl⟩ | exact ⟨rfl, by omega, by omega⟩ | exact ⟨by omega, by omega, by omega⟩ | exact ⟨rfl, Nat.le_of_ble_eq_true rfl⟩) ?_; conv => whnf) | (refine ⟨_, rfl, ?_⟩; conv => whnf)))
          refine ⟨_, _, WeakV.drop (congrArg SV.bool ?_), h⟩
          simp
end Go.LX
