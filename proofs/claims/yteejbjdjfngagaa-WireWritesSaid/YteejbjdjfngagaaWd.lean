import Derived.Test.YteejbjdjfngagaaWc
set_option maxRecDepth 100000
set_option autoImplicit false
set_option linter.unusedVariables false
set_option linter.unusedSimpArgs false
namespace Go.LX
open Go.Proofs

/-- A writer's step: the error, whether it wrote, what is written. -/
structure WS where
  e : Int
  l : List UInt8
def errOf (e : Int) : Int := if e = 0 then 1 else e
/-- What a writer's call gets, and leaves. -/
def wrS (bd : Nat) (args : List SV) (ok : Bool) (more : List UInt8) (H : List LObj) (Q : SV → List LObj → Prop) : Prop :=
  match H with
  | [.cells [.int .i64 e, a, .own 1] 33, .own 5 1 m xs true] => ∃ l : List UInt8, xs = bys l ∧ m = l.length ∧ (a = .nil ∨ a = .ptr 0 1) ∧ l.length < bd ∧
    Q (.tuple []) (match ok with
      | true => wrN e (.ptr 0 1) (l ++ more)
      | false => wrN (errOf e) a l)
  | _ => False
def rawS : Spec := fun args H Q => match args with
  | [.ptr 0 0, .str s] => s.length < 10000000 ∧ wrS 20000000 args true s H Q
  | _ => False
theorem raw_c : Meets Try.prog [] 28 rawS := by
  refine meets_of Γok Try.func28 rfl ?_
  intro args H Q h
  unfold rawS at h
  split at h
  case h_2 => exact h.elim
  obtain ⟨hs, h⟩ := h
  unfold wrS at h
  split at h
  case h_2 => exact h.elim
  rename_i s _ _ e a m xs
  obtain ⟨l, rfl, rfl, ha, hl, h⟩ := h
  rcases ha with rfl | rfl
  all_goals
    (refine sx_sound Γok _ ?_; conv => whnf)
    refine CallVC.of [0, 1] ws_k ⟨_, rfl, rfl, by first | exact .inl rfl | exact .inr rfl, by omega, by omega, ?_⟩
    (conv => whnf)
    refine ⟨_, _, WeakV.to [0, 1, 2] rfl rfl rfl rfl ?_, h⟩
    (repeat' ((conv => whnf); first | exact True.intro | (refine And.intro ?_ ?_)))
    all_goals first | rfl | exact .eq rfl | (rw [List.length_append]; rfl)
theorem raw_k : Contract Try.prog [] 28 rawS := ⟨⟨⟨_, rfl, rfl, rfl⟩⟩, raw_c⟩
def numS : Spec := fun args H Q => match args with
  | [.ptr 0 0, .int .u64 n] => ∃ v : Nat, n = v ∧ v < 18446744073709551616 ∧ wrS 10000000 args true (beb v 8) H Q
  | _ => False
theorem num_c : Meets Try.prog [] 27 numS := by
  refine meets_of Γok Try.func27 rfl ?_
  intro args H Q h
  unfold numS at h
  split at h
  case h_2 => exact h.elim
  obtain ⟨v, rfl, hv, h⟩ := h
  unfold wrS at h
  split at h
  case h_2 => exact h.elim
  rename_i _ _ e a m xs
  obtain ⟨l, rfl, rfl, ha, hl, h⟩ := h
  rcases ha with rfl | rfl
  all_goals
    (refine sx_sound Γok _ ?_; conv => whnf)
    refine CallVC.of [0, 1] put_k ⟨l, v, 8, rfl, rfl, by first | exact .inl rfl | exact .inr rfl, by omega, rfl, hv, rfl, by omega, by omega, ?_⟩
    (conv => whnf)
    refine ⟨_, _, WeakV.to [0, 1, 2] rfl rfl rfl rfl ?_, h⟩
    (repeat' ((conv => whnf); first | exact True.intro | (refine And.intro ?_ ?_)))
    all_goals first | rfl | exact .eq rfl
theorem num_k : Contract Try.prog [] 27 numS := ⟨⟨⟨_, rfl, rfl, rfl⟩⟩, num_c⟩
def byteS : Spec := fun args H Q => match args with
  | [.ptr 0 0, .int .i64 n] => wrS 10000000 args (decide (0 ≤ n ∧ n ≤ 255)) [UInt8.ofNat n.toNat] H Q
  | _ => False
theorem byte_c : Meets Try.prog [] 25 byteS := by
  refine meets_of Γok Try.func25 rfl ?_
  intro args H Q h
  unfold byteS at h
  split at h
  case h_2 => exact h.elim
  unfold wrS at h
  split at h
  case h_2 => exact h.elim
  rename_i n _ e a m xs
  obtain ⟨l, rfl, rfl, ha, hl, h⟩ := h
  rcases ha with rfl | rfl
  all_goals
    (refine sx_sound Γok _ ?_; conv => whnf)
    refine Both.dec (fun h0 => ?_) (fun h0 => ?_)
    · (conv => whnf)
      (repeat (first | (refine Both.lit_true ?_; conv => whnf) | (refine Both.lit_false ?_; conv => whnf) | (refine Need.mk (by first | omega | exact ⟨by omega, by omega⟩ | rfl | exact ⟨rfl, rfl⟩ | exact ⟨rfl, Nat.le_of_ble_eq_true rfl⟩) ?_; conv => whnf)))
      refine CallVC.of [0, 1] fail_k ⟨.inl rfl, ?_⟩
      (conv => whnf)
      rw [decide_eq_false (by omega)] at h
      exact ⟨_, _, WeakV.of (Weak.fresh 1 0 2 rfl rfl rfl), h⟩
    · (conv => whnf)
      (repeat (first | (refine Both.lit_true ?_; conv => whnf) | (refine Both.lit_false ?_; conv => whnf) | (refine Need.mk (by first | omega | exact ⟨by omega, by omega⟩ | rfl | exact ⟨rfl, rfl⟩ | exact ⟨rfl, Nat.le_of_ble_eq_true rfl⟩) ?_; conv => whnf)))
      refine Both.dec (fun h1 => ?_) (fun h1 => ?_)
      · (conv => whnf)
        (repeat (first | (refine Both.lit_true ?_; conv => whnf) | (refine Both.lit_false ?_; conv => whnf) | (refine Need.mk (by first | omega | exact ⟨by omega, by omega⟩ | rfl | exact ⟨rfl, rfl⟩ | exact ⟨rfl, Nat.le_of_ble_eq_true rfl⟩) ?_; conv => whnf)))
        refine CallVC.of [0, 1] fail_k ⟨.inl rfl, ?_⟩
        (conv => whnf)
        rw [decide_eq_false (by omega)] at h
        exact ⟨_, _, WeakV.of (Weak.fresh 1 0 2 rfl rfl rfl), h⟩
      · (conv => whnf)
        (repeat (first | (refine Both.lit_true ?_; conv => whnf) | (refine Both.lit_false ?_; conv => whnf) | (refine Need.mk (by first | omega | exact ⟨by omega, by omega⟩ | rfl | exact ⟨rfl, rfl⟩ | exact ⟨rfl, Nat.le_of_ble_eq_true rfl⟩) ?_; conv => whnf)))
        obtain ⟨v, rfl⟩ : ∃ v : Nat, n = v := ⟨n.toNat, by omega⟩
        rw [wrap_u64 (by omega) (by omega)]
        refine CallVC.of [0, 1] put_k ⟨l, v, 1, rfl, rfl, by first | exact .inl rfl | exact .inr rfl, by omega, rfl, by omega, rfl, by omega, by omega, ?_⟩
        (conv => whnf)
        rw [decide_eq_true (by omega)] at h
        refine ⟨_, _, WeakV.to [0, 1, 2] rfl rfl rfl rfl ?_, h⟩
        (repeat' ((conv => whnf); first | exact True.intro | (refine And.intro ?_ ?_)))
        all_goals first | rfl | exact .eq rfl | (rw [show beb v 1 = [UInt8.ofNat ((v : Int)).toNat] by simp [beb]]; rfl)
theorem byte_k : Contract Try.prog [] 25 byteS := ⟨⟨⟨_, rfl, rfl, rfl⟩⟩, byte_c⟩
end Go.LX
