import Derived.Test.YteejbjdjfngagaaWireR
set_option maxRecDepth 100000
set_option maxHeartbeats 4000000
set_option autoImplicit false
set_option linter.unusedVariables false
set_option linter.unusedSimpArgs false
namespace Go.LX
open Go.Proofs

/-! ## The document's reader -/
theorem mul_u64 (n : Nat) (b : UInt8) (h : n * 256 + 256 ≤ 18446744073709551616) : IntKind.u64.wrap (IntKind.u64.wrap ((n : Int) * 256) + IntKind.u64.wrap (b.toNat : Int)) = ((n * 256 + b.toNat : Nat) : Int) := by
  have hb := b.toNat_lt
  rw [wrap_u64 (n := (n : Int) * 256) (by omega) (by omega), wrap_u64 (n := (b.toNat : Int)) (by omega) (by omega), wrap_u64 (by omega) (by omega)]
  omega
theorem getD_str (l : List UInt8) {k : Nat} (h : k < l.length) : l.getD ((k : Nat) : Int).toNat 0 = l[k] := by
  rw [Int.toNat_natCast, List.getD_eq_getElem?_getD, List.getElem?_eq_getElem h]
  rfl
def valS : Spec := fun args H Q => match args, H with
  | [.str s], [] => Need (s.length ≤ 8) (Q (.int .u64 (bev s : Int)) [])
  | _, _ => False
theorem val_c : Meets Try.prog [] 33 valS := by
  refine meets_of Γok Try.func33 rfl ?_
  intro args H Q h
  unfold valS at h
  split at h
  case h_2 => exact h.elim
  rename_i s
  obtain ⟨hs, h⟩ := h
  (refine sx_sound Γok _ ?_; conv => whnf)
  refine loop_rule (fun k : Nat => ⟨[.str s, .any, .any, .int .u64 (bev (s.take k) : Int), .int .i64 (k : Int), .any, .any, .any, .any, .any, .any, .any, .any, .any, .any, .any, .any, .any, .any], []⟩) (fun k => k ≤ s.length) (fun k => s.length - k) 0 (by omega) (Weak.auto ?_) ?_
  · (repeat' ((conv => whnf); first | exact True.intro | (refine And.intro ?_ ?_)))
    all_goals first | rfl | done
  · intro k hk
    (refine sx_sound Γok _ ?_; conv => whnf)
    refine Both.dec (fun hlt => ?_) (fun hge => ?_)
    · have hks : k < s.length := by omega
      (conv => whnf)
      refine Need.mk ⟨by omega, by omega⟩ ?_
      (conv => whnf)
      refine ⟨k + 1, by omega, by omega, Weak.auto ?_⟩
      (repeat' ((conv => whnf); first | exact True.intro | (refine And.intro ?_ ?_)))
      all_goals first | rfl | exact congrArg (SV.int .i64) (by rw [wrap_i64 (by omega) (by omega)]; rfl) | exact congrArg (SV.int .u64) (by rw [getD_str s hks, mul_u64 _ _ (bev_room s hks hs), bev_take s hks])
    · obtain rfl : k = s.length := by omega
      (conv => whnf)
      rw [List.take_length]
      exact ⟨_, _, WeakV.refl _ _ _ _, h⟩
theorem val_k : Contract Try.prog [] 33 valS := ⟨⟨⟨_, rfl, rfl, rfl⟩⟩, val_c⟩
def mrd (S : List UInt8) (a : Nat) (e : Int) : List LObj := [.cells [.str S, .int .i64 a, .int .i64 e] 48]
theorem rdOk_of {e n : Int} {s : List UInt8} (h1 : e = 0) (h2 : 0 ≤ n) (h3 : n ≤ s.length) : rdOk e n s = true := decide_eq_true ⟨h1, h2, h3⟩
theorem rdOk_not {e n : Int} {s : List UInt8} (h : ¬ (e = 0 ∧ 0 ≤ n ∧ n ≤ s.length)) : rdOk e n s = false := decide_eq_false h
def takeS : Spec := fun args H Q => match args, H with
  | [.ptr 0 0, .int .i64 n], [.cells [.str S, .int .i64 p, .int .i64 e] 48] => ∃ a : Nat, p = a ∧ a ≤ S.length ∧ S.length < 1000000 ∧
    ∀ a' : Nat, a' ≤ S.length → S.drop a' = rdS e n (S.drop a) → Q (.tuple [.str (rdT e n (S.drop a)), .bool (rdOk e n (S.drop a))]) (mrd S a' (rdE e n (S.drop a)))
  | _, _ => False
theorem take_c : Meets Try.prog [] 32 takeS := by
  refine meets_of Γok Try.func32 rfl ?_
  intro args H Q h
  unfold takeS at h
  split at h
  case h_2 => exact h.elim
  rename_i n S p e
  obtain ⟨a, rfl, ha, hS, h⟩ := h
  have hdl : (S.drop a).length = S.length - a := by simp
  have bad : ¬ (e = 0 ∧ 0 ≤ n ∧ n ≤ (S.drop a).length) → Q (.tuple [.str [], .bool false]) (mrd S a (if e = 0 then 6 else e)) := by
    intro h0
    have h1 := h a ha (by simp [rdS, rdOk_not h0])
    rw [rdOk_not h0, show rdT e n (S.drop a) = [] by simp [rdT, rdOk_not h0], show rdE e n (S.drop a) = if e = 0 then 6 else e by
      unfold rdE
      by_cases he : e = 0
      · rw [if_pos he, if_pos he, if_neg (by omega)]
      · rw [if_neg he, if_neg he]] at h1
    exact h1
  (refine sx_sound Γok _ ?_; conv => whnf)
  (refine ⟨_, rfl, ?_⟩; conv => whnf)
  refine Both.dec_not (fun he => ?_) (fun he => ?_)
  · (conv => whnf)
    have h1 := bad (by omega)
    rw [if_neg he] at h1
    exact ⟨_, _, WeakV.refl _ _ _ _, h1⟩
  · subst he
    (conv => whnf)
    (refine DrawVC.all Γok (by kernel_rfl) (by kernel_rfl) ?_; conv => whnf)
    have h1 := fun h0 => bad h0
    rw [if_pos rfl] at h1
    (repeat (first | (exact Out.same; conv => whnf) | (exact Out1.same; conv => whnf) | (apply QStepH.go; conv => whnf) | (refine Both.lit_true ?_; conv => whnf) | (refine Both.lit_false ?_; conv => whnf) | (apply QStep.go; conv => whnf) | (refine Need.mk (by first | omega | exact ⟨by omega, by omega⟩ | rfl | exact ⟨rfl, rfl⟩ | exact ⟨rfl, Nat.le_of_ble_eq_true rfl⟩) ?_; conv => whnf)))
    refine Both.dec (fun h0 => ?_) (fun h0 => ?_)
    · (conv => whnf)
      (repeat (first | (exact Out.same; conv => whnf) | (exact Out1.same; conv => whnf) | (apply QStepH.go; conv => whnf) | (refine Both.lit_true ?_; conv => whnf) | (refine Both.lit_false ?_; conv => whnf) | (apply QStep.go; conv => whnf) | (refine Need.mk (by first | omega | exact ⟨by omega, by omega⟩ | rfl | exact ⟨rfl, rfl⟩ | exact ⟨rfl, Nat.le_of_ble_eq_true rfl⟩) ?_; conv => whnf)))
      exact ⟨_, _, WeakV.refl _ _ _ _, h1 (by omega)⟩
    · (conv => whnf)
      (repeat (first | (exact Out.same; conv => whnf) | (exact Out1.same; conv => whnf) | (apply QStepH.go; conv => whnf) | (refine Both.lit_true ?_; conv => whnf) | (refine Both.lit_false ?_; conv => whnf) | (apply QStep.go; conv => whnf) | (refine Need.mk (by first | omega | exact ⟨by omega, by omega⟩ | rfl | exact ⟨rfl, rfl⟩ | exact ⟨rfl, Nat.le_of_ble_eq_true rfl⟩) ?_; conv => whnf)))
      (refine ⟨_, rfl, ?_⟩; conv => whnf)
      (repeat (first | (exact Out.same; conv => whnf) | (exact Out1.same; conv => whnf) | (apply QStepH.go; conv => whnf) | (refine Both.lit_true ?_; conv => whnf) | (refine Both.lit_false ?_; conv => whnf) | (apply QStep.go; conv => whnf) | (refine Need.mk (by first | omega | exact ⟨by omega, by omega⟩ | rfl | exact ⟨rfl, rfl⟩ | exact ⟨rfl, Nat.le_of_ble_eq_true rfl⟩) ?_; conv => whnf)))
      (refine ⟨_, rfl, ?_⟩; conv => whnf)
      (repeat (first | (exact Out.same; conv => whnf) | (exact Out1.same; conv => whnf) | (apply QStepH.go; conv => whnf) | (refine Both.lit_true ?_; conv => whnf) | (refine Both.lit_false ?_; conv => whnf) | (apply QStep.go; conv => whnf) | (refine Need.mk (by first | omega | exact ⟨by omega, by omega⟩ | rfl | exact ⟨rfl, rfl⟩ | exact ⟨rfl, Nat.le_of_ble_eq_true rfl⟩) ?_; conv => whnf)))
      rw [wrap_i64 (n := (S.length : Int) - a) (by omega) (by omega)]
      refine Both.dec (fun h2 => ?_) (fun h2 => ?_)
      · (conv => whnf)
        (repeat (first | (exact Out.same; conv => whnf) | (exact Out1.same; conv => whnf) | (apply QStepH.go; conv => whnf) | (refine Both.lit_true ?_; conv => whnf) | (refine Both.lit_false ?_; conv => whnf) | (apply QStep.go; conv => whnf) | (refine Need.mk (by first | omega | exact ⟨by omega, by omega⟩ | rfl | exact ⟨rfl, rfl⟩ | exact ⟨rfl, Nat.le_of_ble_eq_true rfl⟩) ?_; conv => whnf)))
        exact ⟨_, _, WeakV.refl _ _ _ _, h1 (by omega)⟩
      · (conv => whnf)
        (repeat (first | (exact Out.same; conv => whnf) | (exact Out1.same; conv => whnf) | (apply QStepH.go; conv => whnf) | (refine Both.lit_true ?_; conv => whnf) | (refine Both.lit_false ?_; conv => whnf) | (apply QStep.go; conv => whnf) | (refine Need.mk (by first | omega | exact ⟨by omega, by omega⟩ | rfl | exact ⟨rfl, rfl⟩ | exact ⟨rfl, Nat.le_of_ble_eq_true rfl⟩) ?_; conv => whnf)))
        obtain ⟨m, rfl⟩ : ∃ m : Nat, n = m := ⟨n.toNat, by omega⟩
        have hok : rdOk 0 m (S.drop a) = true := rdOk_of rfl (by omega) (by omega)
        have h3 := h (a + m) (by omega) (by simp [rdS, hok])
        rw [hok, show rdT 0 m (S.drop a) = (S.drop a).take m by simp [rdT, hok], show rdE 0 m (S.drop a) = 0 by unfold rdE; rw [if_pos rfl, if_pos (by omega)]] at h3
        (refine ⟨_, rfl, ?_⟩; conv => whnf)
        rw [wrap_i64 (n := (a : Int) + m) (by omega) (by omega)]
        have hw : IntKind.i64.wrap ((a : Int) + m - m) = a := by rw [wrap_i64 (by omega) (by omega)]; omega
        (repeat (first | (refine Both.lit_true ?_; conv => whnf) | (refine Both.lit_false ?_; conv => whnf) | (refine Need.mk (by first | omega | exact ⟨by omega, by omega⟩ | rfl | exact ⟨rfl, rfl⟩ | exact ⟨rfl, Nat.le_of_ble_eq_true rfl⟩) ?_; conv => whnf)))
        (refine DrawVC.all Γok (by kernel_rfl) (by kernel_rfl) ?_; conv => whnf)
        (repeat (first | (exact Out.same; conv => whnf) | (exact Out1.same; conv => whnf) | (apply QStepH.go; conv => whnf) | (refine Both.lit_true ?_; conv => whnf) | (refine Both.lit_false ?_; conv => whnf) | (apply QStep.go; conv => whnf) | (refine Need.mk (by first | omega | exact ⟨by omega, by omega⟩ | rfl | exact ⟨rfl, rfl⟩ | exact ⟨rfl, Nat.le_of_ble_eq_true rfl⟩) ?_; conv => whnf)))
        (refine ⟨_, rfl, ?_⟩; conv => whnf)
        (repeat (first | (exact Out.same; conv => whnf) | (exact Out1.same; conv => whnf) | (apply QStepH.go; conv => whnf) | (refine Both.lit_true ?_; conv => whnf) | (refine Both.lit_false ?_; conv => whnf) | (apply QStep.go; conv => whnf) | (refine Need.mk (by first | omega | exact ⟨by omega, by omega⟩ | rfl | exact ⟨rfl, rfl⟩ | exact ⟨rfl, Nat.le_of_ble_eq_true rfl⟩) ?_; conv => whnf)))
        (refine ⟨_, rfl, ?_⟩; conv => whnf)
        (repeat (first | (exact Out.same; conv => whnf) | (exact Out1.same; conv => whnf) | (apply QStepH.go; conv => whnf) | (refine Both.lit_true ?_; conv => whnf) | (refine Both.lit_false ?_; conv => whnf) | (apply QStep.go; conv => whnf) | (refine Need.mk (by first | omega | exact ⟨by omega, by omega⟩ | rfl | exact ⟨rfl, rfl⟩ | exact ⟨rfl, Nat.le_of_ble_eq_true rfl⟩) ?_; conv => whnf)))
        (refine ⟨_, rfl, ?_⟩; conv => whnf)
        (repeat (first | (exact Out.same; conv => whnf) | (exact Out1.same; conv => whnf) | (apply QStepH.go; conv => whnf) | (refine Both.lit_true ?_; conv => whnf) | (refine Both.lit_false ?_; conv => whnf) | (apply QStep.go; conv => whnf) | (refine Need.mk (by first | omega | exact ⟨by omega, by omega⟩ | rfl | exact ⟨rfl, rfl⟩ | exact ⟨rfl, Nat.le_of_ble_eq_true rfl⟩) ?_; conv => whnf)))
        refine ⟨_, _, WeakV.auto ?_, h3⟩
        (repeat' ((conv => whnf); first | exact True.intro | (refine And.intro ?_ ?_)))
        · refine congrArg (fun x => SV.tuple [.str x, .bool true]) ?_
          rw [hw, show ((a : Int) + m).toNat = a + m by omega, Int.toNat_natCast, List.drop_take]
          congr 1
          omega
        all_goals first | rfl | exact .eq rfl | skip
theorem take_k : Contract Try.prog [] 32 takeS := ⟨⟨⟨_, rfl, rfl, rfl⟩⟩, take_c⟩
end Go.LX
