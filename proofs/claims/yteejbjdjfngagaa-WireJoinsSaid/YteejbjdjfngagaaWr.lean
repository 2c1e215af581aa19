import Derived.Test.YteejbjdjfngagaaWLaw
set_option maxRecDepth 100000
set_option maxHeartbeats 4000000
set_option autoImplicit false
set_option linter.unusedVariables false
set_option linter.unusedSimpArgs false
namespace Go.LX
open Go.Proofs

/-! ### A call of the document's reader -/
def doV (c : Call) (e : Int) (s : List UInt8) : Nat := if c.kind = 0 then rdV e 1 s else if c.kind = 1 then rdV e 8 s else 0
def doT (c : Call) (e : Int) (s : List UInt8) : List UInt8 := if c.kind = 2 then rdT (rdE e 2 s) (rdV e 2 s) (rdS e 2 s) else if c.kind = 3 then rdT e c.k s else []
def doE (c : Call) (e : Int) (s : List UInt8) : Int := if c.kind = 0 then rdE e 1 s else if c.kind = 1 then rdE e 8 s else if c.kind = 2 then rdE (rdE e 2 s) (rdV e 2 s) (rdS e 2 s) else if c.kind = 3 then rdE e c.k s else if e = 0 then c.k else e
def doS (c : Call) (e : Int) (s : List UInt8) : List UInt8 := if c.kind = 0 then rdS e 1 s else if c.kind = 1 then rdS e 8 s else if c.kind = 2 then rdS (rdE e 2 s) (rdV e 2 s) (rdS e 2 s) else if c.kind = 3 then rdS e c.k s else s
theorem rd_bad {e n : Int} {s : List UInt8} (h : e ≠ 0) : rdOk e n s = false ∧ rdT e n s = [] ∧ rdE e n s = e ∧ rdS e n s = s := by
  have h1 : rdOk e n s = false := rdOk_not (by omega)
  exact ⟨h1, by simp [rdT, h1], by simp [rdE, h], by simp [rdS, h1]⟩
theorem rdE_ok {e n : Int} {s : List UInt8} : rdOk e n s = decide (rdE e n s = 0) := by
  unfold rdOk rdE
  by_cases he : e = 0
  · subst he
    by_cases h : 0 ≤ n ∧ n ≤ (s.length : Int) <;> simp [h]
  · simp [he]
def Call.sv (c : Call) : SV := .agg [.int .i64 c.kind, .int .i64 c.k, .int .u64 (u64 c.n), .str c.s]
def mdoS : Spec := fun args H Q => match args, H with
  | [.ptr 0 0, .agg [.int .i64 kind, .int .i64 k, .int .u64 n, .str t]], [.cells [.str S, .int .i64 p, .int .i64 e] 48] => ∃ (a : Nat) (c : Call), kind = c.kind ∧ k = c.k ∧ p = a ∧ a ≤ S.length ∧ S.length < 1000000 ∧
    ∀ a' : Nat, a' ≤ S.length → S.drop a' = doS c e (S.drop a) → Q (.tuple [.int .u64 (doV c e (S.drop a) : Int), .str (doT c e (S.drop a))]) (mrd S a' (doE c e (S.drop a)))
  | _, _ => False
theorem mdo_c : Meets Try.prog [] 21 mdoS := by
  refine meets_of Γok Try.func21 rfl ?_
  intro args H Q h
  unfold mdoS at h
  split at h
  case h_2 => exact h.elim
  rename_i kind k n t S p e
  obtain ⟨a, c, rfl, rfl, rfl, ha, hS, h⟩ := h
  (refine sx_sound Γok _ ?_; conv => whnf)
  (refine ⟨_, rfl, ?_⟩; conv => whnf)
  refine Both.dec (fun h0 => ?_) (fun h0 => ?_)
  · (conv => whnf)
    refine CallVC.auto take_k ?_
    refine ⟨a, rfl, ha, hS, fun a' ha' hd => ?_⟩
    have h1 := h a' ha' (by simp [doS, h0, hd])
    simp only [doV, doT, doE, h0, if_true, if_false] at h1
    (conv => whnf)
    (repeat (first | (exact Out.same; conv => whnf) | (exact Out1.same; conv => whnf) | (apply QStepH.go; conv => whnf) | (refine Both.lit_true ?_; conv => whnf) | (refine Both.lit_false ?_; conv => whnf) | (apply QStep.go; conv => whnf) | (refine Need.mk (by first | omega | exact ⟨by omega, by omega⟩ | rfl | exact ⟨rfl, rfl⟩ | exact ⟨rfl, by omega, by omega⟩ | exact ⟨by omega, by omega, by omega⟩ | exact ⟨rfl, Nat.le_of_ble_eq_true rfl⟩) ?_; conv => whnf) | (refine ⟨_, rfl, ?_⟩; conv => whnf) | (refine CallVC.auto val_k ?_; conv => whnf)))
    have hl := rdT_len e 1 (S.drop a)
    refine Need.mk (by omega) ?_
    (conv => whnf)
    refine ⟨_, _, WeakV.auto ?_, h1⟩
    (repeat' ((conv => whnf); first | exact True.intro | (refine And.intro ?_ ?_)))
    all_goals first | rfl | exact .eq rfl | skip
  · (conv => whnf)
    refine Both.dec (fun h1 => ?_) (fun h1 => ?_)
    · (conv => whnf)
      refine CallVC.auto take_k ?_
      refine ⟨a, rfl, ha, hS, fun a' ha' hd => ?_⟩
      have h2 := h a' ha' (by simp [doS, h1, hd])
      simp only [doV, doT, doE, h1, if_true, if_false, reduceCtorEq, Int.reduceEq] at h2
      (conv => whnf)
      have hl := rdT_len e 8 (S.drop a)
      (repeat (first | (exact Out.same; conv => whnf) | (exact Out1.same; conv => whnf) | (apply QStepH.go; conv => whnf) | (refine Both.lit_true ?_; conv => whnf) | (refine Both.lit_false ?_; conv => whnf) | (apply QStep.go; conv => whnf) | (refine Need.mk (by first | omega | exact ⟨by omega, by omega⟩ | rfl | exact ⟨rfl, rfl⟩ | exact ⟨rfl, by omega, by omega⟩ | exact ⟨by omega, by omega, by omega⟩ | exact ⟨rfl, Nat.le_of_ble_eq_true rfl⟩) ?_; conv => whnf) | (refine ⟨_, rfl, ?_⟩; conv => whnf) | (refine CallVC.auto val_k ?_; conv => whnf)))
      refine ⟨_, _, WeakV.auto ?_, h2⟩
      (repeat' ((conv => whnf); first | exact True.intro | (refine And.intro ?_ ?_)))
      all_goals first | rfl | exact .eq rfl
    · (conv => whnf)
      refine Both.dec (fun h2 => ?_) (fun h2 => ?_)
      · (conv => whnf)
        refine CallVC.auto take_k ?_
        refine ⟨a, rfl, ha, hS, fun a1 ha1 hd1 => ?_⟩
        (conv => whnf)
        refine Both.cases (fun h3 => ?_) (fun h3 => ?_)
        · have hne : rdE e 2 (S.drop a) ≠ 0 := by
            intro h4
            rw [rdE_ok, h4] at h3
            simp at h3
          have ht : rdT e 2 (S.drop a) = [] := by
            rw [rdT, if_neg]
            simpa using h3
          obtain ⟨_, b1, b2, b3⟩ := rd_bad (n := (rdV e 2 (S.drop a) : Int)) (s := rdS e 2 (S.drop a)) hne
          have h4 := h a1 ha1 (by simp [doS, h2, hd1, b3])
          simp only [doV, doT, doE, h2, if_true, if_false, reduceCtorEq, Int.reduceEq, b1, b2] at h4
          (conv => whnf)
          refine ⟨_, _, WeakV.auto ?_, h4⟩
          (repeat' ((conv => whnf); first | exact True.intro | (refine And.intro ?_ ?_)))
          all_goals first | rfl | exact .eq rfl
        · (conv => whnf)
          have hl := rdT_len e 2 (S.drop a)
          (repeat (first | (exact Out.same; conv => whnf) | (exact Out1.same; conv => whnf) | (apply QStepH.go; conv => whnf) | (refine Both.lit_true ?_; conv => whnf) | (refine Both.lit_false ?_; conv => whnf) | (apply QStep.go; conv => whnf) | (refine Need.mk (by first | omega | exact ⟨by omega, by omega⟩ | rfl | exact ⟨rfl, rfl⟩ | exact ⟨rfl, by omega, by omega⟩ | exact ⟨by omega, by omega, by omega⟩ | exact ⟨rfl, Nat.le_of_ble_eq_true rfl⟩) ?_; conv => whnf) | (refine ⟨_, rfl, ?_⟩; conv => whnf) | (refine CallVC.auto val_k ?_; conv => whnf)))
          have hv := rdV_lt2 e (S.drop a)
          rw [show IntKind.i64.wrap (bev (rdT e 2 (S.drop a)) : Int) = (rdV e 2 (S.drop a) : Int) from wrap_i64 (n := (rdV e 2 (S.drop a) : Int)) (by omega) (by omega)]
          refine CallVC.auto take_k ?_
          refine ⟨a1, rfl, ha1, hS, fun a2 ha2 hd2 => ?_⟩
          rw [hd1] at hd2 ⊢
          have h4 := h a2 ha2 (by simp [doS, h2, hd2])
          simp only [doV, doT, doE, h2, if_true, if_false, reduceCtorEq, Int.reduceEq] at h4
          (conv => whnf)
          refine ⟨_, _, WeakV.auto ?_, h4⟩
          (repeat' ((conv => whnf); first | exact True.intro | (refine And.intro ?_ ?_)))
          all_goals first | rfl | exact .eq rfl
      · (conv => whnf)
        refine Both.dec (fun h3 => ?_) (fun h3 => ?_)
        · (conv => whnf)
          (refine ⟨_, rfl, ?_⟩; conv => whnf)
          refine CallVC.auto take_k ?_
          refine ⟨a, rfl, ha, hS, fun a' ha' hd => ?_⟩
          have h4 := h a' ha' (by simp [doS, h3, hd])
          simp only [doV, doT, doE, h3, if_true, if_false, reduceCtorEq, Int.reduceEq] at h4
          (conv => whnf)
          refine ⟨_, _, WeakV.auto ?_, h4⟩
          (repeat' ((conv => whnf); first | exact True.intro | (refine And.intro ?_ ?_)))
          all_goals first | rfl | exact .eq rfl
        · (conv => whnf)
          have h4 := h a ha (by simp [doS, h0, h1, h2, h3])
          simp only [doV, doT, doE, h0, h1, h2, h3, if_true, if_false] at h4
          (refine ⟨_, rfl, ?_⟩; conv => whnf)
          refine Both.dec (fun he => ?_) (fun he => ?_)
          · (conv => whnf)
            rw [if_pos he] at h4
            (repeat (first | (exact Out.same; conv => whnf) | (exact Out1.same; conv => whnf) | (apply QStepH.go; conv => whnf) | (refine Both.lit_true ?_; conv => whnf) | (refine Both.lit_false ?_; conv => whnf) | (apply QStep.go; conv => whnf) | (refine Need.mk (by first | omega | exact ⟨by omega, by omega⟩ | rfl | exact ⟨rfl, rfl⟩ | exact ⟨rfl, by omega, by omega⟩ | exact ⟨by omega, by omega, by omega⟩ | exact ⟨rfl, Nat.le_of_ble_eq_true rfl⟩) ?_; conv => whnf) | (refine ⟨_, rfl, ?_⟩; conv => whnf)))
            refine ⟨_, _, WeakV.auto ?_, h4⟩
            (repeat' ((conv => whnf); first | exact True.intro | (refine And.intro ?_ ?_)))
            all_goals first | rfl | exact .eq rfl
          · (conv => whnf)
            rw [if_neg he] at h4
            refine ⟨_, _, WeakV.auto ?_, h4⟩
            (repeat' ((conv => whnf); first | exact True.intro | (refine And.intro ?_ ?_)))
            all_goals first | rfl | exact .eq rfl
theorem mdo_k : Contract Try.prog [] 21 mdoS := ⟨⟨⟨_, rfl, rfl, rfl⟩⟩, mdo_c⟩
def mleftS : Spec := fun args H Q => match args, H with
  | [.ptr 0 0], [.cells [.str S, .int .i64 p, .int .i64 e] 48] => ∃ a : Nat, p = a ∧ a ≤ S.length ∧ S.length < 1000000 ∧ Q (.int .i64 (rdLeft e (S.drop a))) (mrd S a e)
  | _, _ => False
theorem mleft_c : Meets Try.prog [] 22 mleftS := by
  refine meets_of Γok Try.func22 rfl ?_
  intro args H Q h
  unfold mleftS at h
  split at h
  case h_2 => exact h.elim
  rename_i S p e
  obtain ⟨a, rfl, ha, hS, h⟩ := h
  unfold rdLeft at h
  (refine sx_sound Γok _ ?_; conv => whnf)
  (refine ⟨_, rfl, ?_⟩; conv => whnf)
  refine Both.dec_not (fun he => ?_) (fun he => ?_)
  · (conv => whnf)
    rw [if_neg he] at h
    refine ⟨_, _, WeakV.refl _ _ _ _, h⟩
  · (conv => whnf)
    rw [if_pos he] at h
    (refine DrawVC.all Γok (by kernel_rfl) (by kernel_rfl) ?_; conv => whnf)
    (repeat (first | (exact Out.same; conv => whnf) | (exact Out1.same; conv => whnf) | (apply QStepH.go; conv => whnf) | (refine Both.lit_true ?_; conv => whnf) | (refine Both.lit_false ?_; conv => whnf) | (apply QStep.go; conv => whnf) | (refine Need.mk (by first | omega | exact ⟨by omega, by omega⟩ | rfl | exact ⟨rfl, rfl⟩ | exact ⟨rfl, Nat.le_of_ble_eq_true rfl⟩) ?_; conv => whnf)))
    (refine ⟨_, rfl, ?_⟩; conv => whnf)
    (repeat (first | (exact Out.same; conv => whnf) | (exact Out1.same; conv => whnf) | (apply QStepH.go; conv => whnf) | (refine Both.lit_true ?_; conv => whnf) | (refine Both.lit_false ?_; conv => whnf) | (apply QStep.go; conv => whnf) | (refine Need.mk (by first | omega | exact ⟨by omega, by omega⟩ | rfl | exact ⟨rfl, rfl⟩ | exact ⟨rfl, Nat.le_of_ble_eq_true rfl⟩) ?_; conv => whnf)))
    (refine ⟨_, rfl, ?_⟩; conv => whnf)
    (repeat (first | (exact Out.same; conv => whnf) | (exact Out1.same; conv => whnf) | (apply QStepH.go; conv => whnf) | (refine Both.lit_true ?_; conv => whnf) | (refine Both.lit_false ?_; conv => whnf) | (apply QStep.go; conv => whnf) | (refine Need.mk (by first | omega | exact ⟨by omega, by omega⟩ | rfl | exact ⟨rfl, rfl⟩ | exact ⟨rfl, Nat.le_of_ble_eq_true rfl⟩) ?_; conv => whnf)))
    refine ⟨_, _, WeakV.auto ?_, h⟩
    (repeat' ((conv => whnf); first | exact True.intro | (refine And.intro ?_ ?_)))
    all_goals first | rfl | exact .eq rfl | exact congrArg (SV.int .i64) (by rw [wrap_i64 (by omega) (by omega), List.length_drop]; omega)
theorem mleft_k : Contract Try.prog [] 22 mleftS := ⟨⟨⟨_, rfl, rfl, rfl⟩⟩, mleft_c⟩
def mendS : Spec := fun args H Q => match args, H with
  | [.ptr 0 0], [.cells [.str S, .int .i64 p, .int .i64 e] 48] => ∃ a : Nat, p = a ∧ a ≤ S.length ∧ S.length < 1000000 ∧ Q (.int .i64 (rdEnd e (S.drop a))) (mrd S a e)
  | _, _ => False
theorem mend_c : Meets Try.prog [] 24 mendS := by
  refine meets_of Γok Try.func24 rfl ?_
  intro args H Q h
  unfold mendS at h
  split at h
  case h_2 => exact h.elim
  rename_i S p e
  obtain ⟨a, rfl, ha, hS, h⟩ := h
  unfold rdEnd at h
  (refine sx_sound Γok _ ?_; conv => whnf)
  refine CallVC.auto mleft_k ?_
  refine ⟨a, rfl, ha, hS, ?_⟩
  (conv => whnf)
  refine Both.dec (fun he => ?_) (fun he => ?_)
  · (conv => whnf)
    rw [if_pos he] at h
    refine ⟨_, _, WeakV.auto ?_, h⟩
    (repeat' ((conv => whnf); first | exact True.intro | (refine And.intro ?_ ?_)))
    all_goals first | rfl | exact .eq rfl
  · (conv => whnf)
    rw [if_neg he] at h
    (refine ⟨_, rfl, ?_⟩; conv => whnf)
    refine ⟨_, _, WeakV.auto ?_, h⟩
    (repeat' ((conv => whnf); first | exact True.intro | (refine And.intro ?_ ?_)))
    all_goals first | rfl | exact .eq rfl
theorem mend_k : Contract Try.prog [] 24 mendS := ⟨⟨⟨_, rfl, rfl, rfl⟩⟩, mend_c⟩
end Go.LX
