import Derived.Test.YteejbjdjfngagaaWr
set_option maxRecDepth 100000
set_option maxHeartbeats 4000000
set_option autoImplicit false
set_option linter.unusedVariables false
set_option linter.unusedSimpArgs false
namespace Go.LX
open Go.Proofs

def lawFS : Spec := fun args H Q => match args, H with
  | [.str S, .int .i64 e, .int .i64 f, .sl 4 n cs false], [] => ∃ l : List Call, n = l.length ∧ cs = l.flatMap Call.en ∧ (∀ c ∈ l, c.ok) ∧ l.length ≤ 9223372036854775807 ∧ Q (.bool true) []
  | _, _ => False
theorem fails_law : Meets Try.prog [] 7 lawFS := by
  refine meets_of Γok Try.func7 rfl ?_
  intro args H Q h
  unfold lawFS at h
  split at h
  case h_2 => exact h.elim
  rename_i S e f n cs
  obtain ⟨l, rfl, rfl, hok, hlen, h⟩ := h
  (refine sx_sound Γok _ ?_; conv => whnf)
  (repeat (first | (exact Out.same; conv => whnf) | (exact Out1.same; conv => whnf) | (apply QStepH.go; conv => whnf) | (refine Both.lit_true ?_; conv => whnf) | (refine Both.lit_false ?_; conv => whnf) | (apply QStep.go; conv => whnf) | (refine Need.mk (by first | omega | exact ⟨by omega, by omega⟩ | rfl | exact ⟨rfl, rfl⟩ | exact ⟨rfl, by omega, by omega⟩ | exact ⟨by omega, by omega, by omega⟩ | exact ⟨rfl, Nat.le_of_ble_eq_true rfl⟩) ?_; conv => whnf) | (refine ⟨_, rfl, ?_⟩; conv => whnf) | (refine CallVC.auto awake_k ?_; conv => whnf)))
  refine CallVC.auto few_k ⟨l, rfl, rfl, hok, hlen, ?_⟩
  intro b hb
  (conv => whnf)
  refine Both.cases (fun hb2 => ?_) (fun hb2 => ?_)
  · (conv => whnf)
    (repeat (first | (refine Both.lit_true ?_; conv => whnf) | (refine Both.lit_false ?_; conv => whnf) | (refine Need.mk (by first | omega | exact ⟨by omega, by omega⟩ | rfl | exact ⟨rfl, rfl⟩ | exact ⟨rfl, Nat.le_of_ble_eq_true rfl⟩) ?_; conv => whnf)))
    exact ⟨_, _, WeakV.drop rfl, h⟩
  (conv => whnf)
  (repeat (first | (refine Both.lit_true ?_; conv => whnf) | (refine Both.lit_false ?_; conv => whnf) | (refine Need.mk (by first | omega | exact ⟨by omega, by omega⟩ | rfl | exact ⟨rfl, rfl⟩ | exact ⟨rfl, Nat.le_of_ble_eq_true rfl⟩) ?_; conv => whnf)))
  refine Both.dec (fun hS => ?_) (fun hS => ?_)
  · (conv => whnf)
    (repeat (first | (refine Both.lit_true ?_; conv => whnf) | (refine Both.lit_false ?_; conv => whnf) | (refine Need.mk (by first | omega | exact ⟨by omega, by omega⟩ | rfl | exact ⟨rfl, rfl⟩ | exact ⟨rfl, Nat.le_of_ble_eq_true rfl⟩) ?_; conv => whnf)))
    exact ⟨_, _, WeakV.drop rfl, h⟩
  (conv => whnf)
  (repeat (first | (refine Both.lit_true ?_; conv => whnf) | (refine Both.lit_false ?_; conv => whnf) | (refine Need.mk (by first | omega | exact ⟨by omega, by omega⟩ | rfl | exact ⟨rfl, rfl⟩ | exact ⟨rfl, Nat.le_of_ble_eq_true rfl⟩) ?_; conv => whnf)))
  refine Both.dec (fun he => ?_) (fun he => ?_)
  · (conv => whnf)
    exact ⟨_, _, WeakV.drop rfl, h⟩
  (conv => whnf)
  (repeat (first | (exact Out.same; conv => whnf) | (exact Out1.same; conv => whnf) | (apply QStepH.go; conv => whnf) | (refine Both.lit_true ?_; conv => whnf) | (refine Both.lit_false ?_; conv => whnf) | (apply QStep.go; conv => whnf) | (refine Need.mk (by first | omega | exact ⟨by omega, by omega⟩ | rfl | exact ⟨rfl, rfl⟩ | exact ⟨rfl, by omega, by omega⟩ | exact ⟨by omega, by omega, by omega⟩ | exact ⟨rfl, Nat.le_of_ble_eq_true rfl⟩) ?_; conv => whnf) | (refine ⟨_, rfl, ?_⟩; conv => whnf) | (refine CallVC.auto rnew_k ?_; conv => whnf)))
  refine CallVC.auto fail_k ⟨.inr rfl, ?_⟩
  rw [if_pos rfl]
  (conv => whnf)
  refine CallVC.auto err_k ⟨.inr rfl, ?_⟩
  (conv => whnf)
  refine Both.dec_not (fun hx => absurd rfl hx) (fun _ => ?_)
  (conv => whnf)
  (repeat (first | (exact Out.same; conv => whnf) | (exact Out1.same; conv => whnf) | (apply QStepH.go; conv => whnf) | (refine Both.lit_true ?_; conv => whnf) | (refine Both.lit_false ?_; conv => whnf) | (apply QStep.go; conv => whnf) | (refine Need.mk (by first | omega | exact ⟨by omega, by omega⟩ | rfl | exact ⟨rfl, rfl⟩ | exact ⟨rfl, by omega, by omega⟩ | exact ⟨by omega, by omega, by omega⟩ | exact ⟨rfl, Nat.le_of_ble_eq_true rfl⟩) ?_; conv => whnf) | (refine ⟨_, rfl, ?_⟩; conv => whnf) | (refine CallVC.auto left_k ?_; conv => whnf)))
  refine Both.dec_not (fun hx => absurd (by simp [rdLeft]) hx) (fun _ => ?_)
  (conv => whnf)
  refine CallVC.auto fail_k ⟨.inr rfl, ?_⟩
  rw [if_pos rfl]
  (conv => whnf)
  refine CallVC.auto fail_k ⟨.inr rfl, ?_⟩
  rw [if_neg he]
  (conv => whnf)
  refine loop_rule (fun k : Nat => ⟨[.str S, .int .i64 e, .int .i64 f, .sl 4 l.length (l.flatMap Call.en) false, .any, .any, .any, .any, .any, .ptr 0 0, .int .i64 (k : Int), .any, .any, .any, .any, .any, .any, .any, .any, .any, .any, .any, .any, .any, .any, .any, .any, .any, .any, .any, .any, .any, .any, .any, .any, .any, .any, .any, .any, .any, .any, .any, .any, .any, .any, .any, .any, .any, .any, .any, .any, .any, .any, .any, .any, .any, .any, .any, .any, .any, .any, .any, .any, .any, .any, .any, .any, .any, .any, .any, .any, .any, .any, .any, .any, .any, .any, .any, .any, .any, .any, .any, .any, .any, .any, .any, .any, .any, .any, .any, .any, .any, .any, .any, .any, .any, .any, .any, .any, .any, .any, .any, .any, .any, .any, .any, .any, .any, .any, .any, .any, .any, .any, .any, .any, .any, .any], rd e S⟩) (fun k => k ≤ l.length) (fun k => l.length - k) 0 (by omega) (Weak.auto ?_) ?_
  · (repeat' ((conv => whnf); first | exact True.intro | (refine And.intro ?_ ?_)))
    all_goals first | rfl | exact .eq rfl | done
  · intro k hk
    have hsl : S.length < 1000000 := by omega
    have hE : ∀ n, rdE e n S = e := fun n => (rd_bad he).2.2.1
    have hT : ∀ n, rdT e n S = [] := fun n => (rd_bad he).2.1
    have hD : ∀ n, rdS e n S = S := fun n => (rd_bad he).2.2.2
    have hV : ∀ n, rdV e n S = 0 := fun n => by rw [rdV, hT]; rfl
    have hL : rdLeft e S = 0 := by simp [rdLeft, he]
    have hN : rdEnd e S = e := by simp [rdEnd, hL]
    (refine sx_sound Γok _ ?_; conv => whnf)
    refine Both.dec (fun hlt => ?_) (fun hge => ?_)
    · have hkl : k < l.length := by omega
      (conv => whnf)
      refine Need.mk ⟨rfl, by omega, by omega⟩ ?_
      (conv => whnf)
      refine ⟨_, calls_row l k hkl, ?_⟩
      (conv => whnf)
      (refine ⟨_, rfl, ?_⟩; conv => whnf)
      have hc := hok _ (List.getElem_mem hkl)
      generalize hcc : l[k] = c at hc ⊢
      have hr := calls_row l k hkl
      rw [hcc] at hr
      refine Both.dec (fun h0 => ?_) (fun h0 => ?_)
      · (conv => whnf)
        refine CallVC.auto rbyte_k (Need.mk hsl ?_)
        rw [hV, hE, hD]
        (conv => whnf)
        (repeat (first | (refine CallVC.auto err_k ⟨.inr rfl, ?_⟩; conv => whnf) | (exact Out.same; conv => whnf) | (exact Out1.same; conv => whnf) | (apply QStepH.go; conv => whnf) | (refine Both.lit_true ?_; conv => whnf) | (refine Both.lit_false ?_; conv => whnf) | (apply QStep.go; conv => whnf) | (refine Need.mk (by first | omega | exact ⟨by omega, by omega⟩ | rfl | exact ⟨rfl, rfl⟩ | exact ⟨rfl, by omega, by omega⟩ | exact ⟨by omega, by omega, by omega⟩ | exact ⟨rfl, Nat.le_of_ble_eq_true rfl⟩) ?_; conv => whnf) | (refine ⟨_, rfl, ?_⟩; conv => whnf) | (refine CallVC.auto left_k ?_; conv => whnf) | (refine CallVC.auto end_k ?_; conv => whnf) | (refine Both.of_false ?_ ?_; (focus (first | rfl | (simp [hL, hN] <;> fail))); conv => whnf) | (refine Both.of_true ?_ ?_; (focus (first | rfl | (simp [hL, hN] <;> fail))); conv => whnf)))
        refine ⟨k + 1, by omega, by omega, Weak.auto ?_⟩
        (repeat' ((conv => whnf); first | exact True.intro | (refine And.intro ?_ ?_)))
        all_goals first | rfl | exact congrArg (SV.int .i64) (by rw [wrap_i64 (by omega) (by omega)]; rfl) | exact .eq rfl
      (conv => whnf)
      refine Both.dec (fun h1 => ?_) (fun h1 => ?_)
      · (conv => whnf)
        refine CallVC.auto rnum_k (Need.mk hsl ?_)
        rw [hV, hE, hD]
        (conv => whnf)
        (repeat (first | (refine CallVC.auto err_k ⟨.inr rfl, ?_⟩; conv => whnf) | (exact Out.same; conv => whnf) | (exact Out1.same; conv => whnf) | (apply QStepH.go; conv => whnf) | (refine Both.lit_true ?_; conv => whnf) | (refine Both.lit_false ?_; conv => whnf) | (apply QStep.go; conv => whnf) | (refine Need.mk (by first | omega | exact ⟨by omega, by omega⟩ | rfl | exact ⟨rfl, rfl⟩ | exact ⟨rfl, by omega, by omega⟩ | exact ⟨by omega, by omega, by omega⟩ | exact ⟨rfl, Nat.le_of_ble_eq_true rfl⟩) ?_; conv => whnf) | (refine ⟨_, rfl, ?_⟩; conv => whnf) | (refine CallVC.auto left_k ?_; conv => whnf) | (refine CallVC.auto end_k ?_; conv => whnf) | (refine Both.of_false ?_ ?_; (focus (first | rfl | (simp [hL, hN] <;> fail))); conv => whnf) | (refine Both.of_true ?_ ?_; (focus (first | rfl | (simp [hL, hN] <;> fail))); conv => whnf)))
        refine ⟨k + 1, by omega, by omega, Weak.auto ?_⟩
        (repeat' ((conv => whnf); first | exact True.intro | (refine And.intro ?_ ?_)))
        all_goals first | rfl | exact congrArg (SV.int .i64) (by rw [wrap_i64 (by omega) (by omega)]; rfl) | exact .eq rfl
      (conv => whnf)
      refine Both.dec (fun h2 => ?_) (fun h2 => ?_)
      · (conv => whnf)
        refine CallVC.auto rtext_k (Need.mk hsl ?_)
        simp only [hE, hD, hT]
        (conv => whnf)
        (repeat (first | (refine CallVC.auto err_k ⟨.inr rfl, ?_⟩; conv => whnf) | (exact Out.same; conv => whnf) | (exact Out1.same; conv => whnf) | (apply QStepH.go; conv => whnf) | (refine Both.lit_true ?_; conv => whnf) | (refine Both.lit_false ?_; conv => whnf) | (apply QStep.go; conv => whnf) | (refine Need.mk (by first | omega | exact ⟨by omega, by omega⟩ | rfl | exact ⟨rfl, rfl⟩ | exact ⟨rfl, by omega, by omega⟩ | exact ⟨by omega, by omega, by omega⟩ | exact ⟨rfl, Nat.le_of_ble_eq_true rfl⟩) ?_; conv => whnf) | (refine ⟨_, rfl, ?_⟩; conv => whnf) | (refine CallVC.auto left_k ?_; conv => whnf) | (refine CallVC.auto end_k ?_; conv => whnf) | (refine Both.of_false ?_ ?_; (focus (first | rfl | (simp [hL, hN] <;> fail))); conv => whnf) | (refine Both.of_true ?_ ?_; (focus (first | rfl | (simp [hL, hN] <;> fail))); conv => whnf)))
        refine ⟨k + 1, by omega, by omega, Weak.auto ?_⟩
        (repeat' ((conv => whnf); first | exact True.intro | (refine And.intro ?_ ?_)))
        all_goals first | rfl | exact congrArg (SV.int .i64) (by rw [wrap_i64 (by omega) (by omega)]; rfl) | exact .eq rfl
      · (conv => whnf)
        (repeat (first | (refine ⟨_, hr, ?_⟩; conv => whnf) | (exact Out.same; conv => whnf) | (exact Out1.same; conv => whnf) | (apply QStepH.go; conv => whnf) | (refine Both.lit_true ?_; conv => whnf) | (refine Both.lit_false ?_; conv => whnf) | (apply QStep.go; conv => whnf) | (refine Need.mk (by first | omega | exact ⟨by omega, by omega⟩ | rfl | exact ⟨rfl, rfl⟩ | exact ⟨rfl, by omega, by omega⟩ | exact ⟨by omega, by omega, by omega⟩ | exact ⟨rfl, Nat.le_of_ble_eq_true rfl⟩) ?_; conv => whnf) | (refine ⟨_, rfl, ?_⟩; conv => whnf)))
        refine CallVC.auto rraw_k ⟨by omega, ?_⟩
        rw [hT, hE, hD]
        (conv => whnf)
        (repeat (first | (refine CallVC.auto err_k ⟨.inr rfl, ?_⟩; conv => whnf) | (exact Out.same; conv => whnf) | (exact Out1.same; conv => whnf) | (apply QStepH.go; conv => whnf) | (refine Both.lit_true ?_; conv => whnf) | (refine Both.lit_false ?_; conv => whnf) | (apply QStep.go; conv => whnf) | (refine Need.mk (by first | omega | exact ⟨by omega, by omega⟩ | rfl | exact ⟨rfl, rfl⟩ | exact ⟨rfl, by omega, by omega⟩ | exact ⟨by omega, by omega, by omega⟩ | exact ⟨rfl, Nat.le_of_ble_eq_true rfl⟩) ?_; conv => whnf) | (refine ⟨_, rfl, ?_⟩; conv => whnf) | (refine CallVC.auto left_k ?_; conv => whnf) | (refine CallVC.auto end_k ?_; conv => whnf) | (refine Both.of_false ?_ ?_; (focus (first | rfl | (simp [hL, hN] <;> fail))); conv => whnf) | (refine Both.of_true ?_ ?_; (focus (first | rfl | (simp [hL, hN] <;> fail))); conv => whnf)))
        refine ⟨k + 1, by omega, by omega, Weak.auto ?_⟩
        (repeat' ((conv => whnf); first | exact True.intro | (refine And.intro ?_ ?_)))
        all_goals first | rfl | exact congrArg (SV.int .i64) (by rw [wrap_i64 (by omega) (by omega)]; rfl) | exact .eq rfl
    · obtain rfl : k = l.length := by omega
      (conv => whnf)
      (repeat (first | (exact Out.same; conv => whnf) | (exact Out1.same; conv => whnf) | (apply QStepH.go; conv => whnf) | (refine Both.lit_true ?_; conv => whnf) | (refine Both.lit_false ?_; conv => whnf) | (apply QStep.go; conv => whnf) | (refine Need.mk (by first | omega | exact ⟨by omega, by omega⟩ | rfl | exact ⟨rfl, rfl⟩ | exact ⟨rfl, by omega, by omega⟩ | exact ⟨by omega, by omega, by omega⟩ | exact ⟨rfl, Nat.le_of_ble_eq_true rfl⟩) ?_; conv => whnf) | (refine ⟨_, rfl, ?_⟩; conv => whnf) | (refine CallVC.auto end_k ?_; conv => whnf)))
      rw [hN]
      refine ⟨_, _, WeakV.drop (congrArg SV.bool ?_), h⟩
      simp
end Go.LX
