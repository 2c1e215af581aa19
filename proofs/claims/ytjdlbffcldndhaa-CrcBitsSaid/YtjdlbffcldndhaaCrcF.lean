import Derived.Test.YtjdlbffcldndhaaCrcE
set_option maxRecDepth 100000
set_option autoImplicit false
set_option linter.unusedVariables false
set_option linter.unusedSimpArgs false
namespace Go.LX
open Go.Proofs

def trueS : Spec := fun args H Q => match args, H with
  | [], [] => Q (.bool true) []
  | _, _ => False
theorem check_sum : Crc.sum [49, 50, 51, 52, 53, 54, 55, 56, 57] = 3421780262#32 := by decide +kernel
theorem awake_c : Meets Try.prog [] 8 trueS := by
  refine meets_of Γok Try.func8 rfl ?_
  intro args H Q h
  unfold trueS at h
  split at h
  case h_2 => exact h.elim
  (refine sx_sound Γok _ ?_; conv => whnf)
  refine CallVC.of [] sum_k ⟨[[49, 50, 51, 52, 53, 54, 55, 56, 57]], .inl rfl, by show 1 < 1000000; decide, by simp, ?_⟩
  (conv => whnf)
  refine ⟨_, _, WeakV.drop (congrArg SV.bool ?_), h⟩
  rw [List.flatten_cons, List.flatten_nil, List.append_nil, check_sum]
  rfl
theorem awake_k : Contract Try.prog [] 8 trueS := ⟨⟨⟨_, rfl, rfl, rfl⟩⟩, awake_c⟩

def law1S : Spec := fun args H Q => match args, H with
  | [.str s], [] => Q (.bool true) []
  | _, _ => False
theorem residue (s : List UInt8) : Crc.sum (Crc.seal_ s) = ~~~ Crc.good := by
  unfold Crc.sum
  rw [Crc.over_seal]
theorem sum_one (s : List UInt8) {k : Nat} (h : k < s.length) : ~~~ Crc.over (~~~ Crc.sum (s.take k)) (List.drop (k : Int).toNat (List.take ((k : Int) + 1).toNat s)) = Crc.sum (s.take (k + 1)) := by
  unfold Crc.sum
  rw [show ((k : Int) + 1).toNat = k + 1 by omega, Int.toNat_natCast, BitVec.not_not, ← Crc.over_append]
  congr 2
  have := List.take_append_drop k (s.take (k + 1))
  rw [List.take_take, Nat.min_eq_left (by omega)] at this
  exact this
theorem steps_law : Meets Try.prog [] 3 law1S := by
  refine meets_of Γok Try.func3 rfl ?_
  intro args H Q h
  unfold law1S at h
  split at h
  case h_2 => exact h.elim
  rename_i s
  (refine sx_sound Γok _ ?_; conv => whnf)
  refine CallVC.of [] awake_k ?_
  (conv => whnf)
  (repeat (first | (refine Both.lit_true ?_; conv => whnf) | (refine Both.lit_false ?_; conv => whnf) | (refine Need.mk (by first | omega | exact ⟨by omega, by omega⟩ | rfl | exact ⟨rfl, rfl⟩) ?_; conv => whnf)))
  refine Both.dec (fun hlt => ?_) (fun hge => ?_)
  · (conv => whnf)
    exact ⟨_, _, WeakV.drop rfl, h⟩
  · (conv => whnf)
    refine CallVC.of [] sum_k ⟨[], .inr ⟨rfl, rfl⟩, by simp, by simp, ?_⟩
    (conv => whnf)
    refine loop_rule (fun k : Nat => ⟨[.str s, .any, .any, .int .u32 (u32 (Crc.sum (s.take k))), .int .i64 (k : Int), .any, .any, .any, .any, .any, .any, .any, .any, .any, .any, .any, .any, .any, .any, .any, .any, .any, .any, .any, .any, .any, .any, .any, .any, .any, .any, .any, .any, .any, .any, .any, .any, .any, .any], []⟩) (fun k => k ≤ s.length) (fun k => s.length - k) 0 (by omega) ?_ ?_
    · refine Weak.le ?_ ?_
      · (repeat' ((conv => whnf); first | exact True.intro | (refine And.intro ?_ ?_)))
        all_goals first | rfl | done
      · (repeat' ((conv => whnf); first | exact True.intro | (refine And.intro ?_ ?_)))
    · intro k hk
      (refine sx_sound Γok _ ?_; conv => whnf)
      refine Both.dec (fun hlt => ?_) (fun hge2 => ?_)
      · (conv => whnf)
        rw [wrap_i64 (n := (k : Int) + 1) (by omega) (by omega)]
        (repeat (first | (refine Both.lit_true ?_; conv => whnf) | (refine Both.lit_false ?_; conv => whnf) | (refine Need.mk (by first | omega | exact ⟨by omega, by omega⟩ | rfl | exact ⟨rfl, rfl⟩) ?_; conv => whnf)))
        refine CallVC.of [] upd_k ⟨_, rfl, ?_, ?_⟩
        · simp; omega
        (conv => whnf)
        refine ⟨k + 1, by omega, by omega, Weak.le ?_ ?_⟩
        · (repeat' ((conv => whnf); first | exact True.intro | (refine And.intro ?_ ?_)))
          all_goals first | rfl | (rw [wrap_i64 (by omega) (by omega)]; rfl) | exact congrArg (fun x => SV.int .u32 (u32 x)) (sum_one s (by omega))
        · (repeat' ((conv => whnf); first | exact True.intro | (refine And.intro ?_ ?_)))
      · have hk' : k = s.length := by omega
        subst hk'
        (conv => whnf)
        refine CallVC.of [] sum_k ⟨[s], .inl rfl, by show 1 < 1000000; decide, by simp; omega, ?_⟩
        (conv => whnf)
        refine Both.sure (by rw [List.take_length, List.flatten_cons, List.flatten_nil, List.append_nil]) ?_
        (conv => whnf)
        (repeat (first | (refine Both.lit_true ?_; conv => whnf) | (refine Both.lit_false ?_; conv => whnf) | (refine Need.mk (by first | omega | exact ⟨by omega, by omega⟩ | rfl | exact ⟨rfl, rfl⟩) ?_; conv => whnf)))
        refine CallVC.of [] seal_k ⟨by omega, ?_⟩
        (conv => whnf)
        (repeat (first | (refine Both.lit_true ?_; conv => whnf) | (refine Both.lit_false ?_; conv => whnf) | (refine Need.mk (by first | omega | exact ⟨by omega, by omega⟩ | rfl | exact ⟨rfl, rfl⟩) ?_; conv => whnf)))
        refine CallVC.of [] sum_k ⟨[Crc.seal_ s], .inl rfl, by show 1 < 1000000; decide, by simp [Crc.seal_, Crc.le_length]; omega, ?_⟩
        (conv => whnf)
        (repeat (first | (refine Both.lit_true ?_; conv => whnf) | (refine Both.lit_false ?_; conv => whnf) | (refine Need.mk (by first | omega | exact ⟨by omega, by omega⟩ | rfl | exact ⟨rfl, rfl⟩) ?_; conv => whnf)))
        refine CallVC.of [] seal_k ⟨by simp, ?_⟩
        (conv => whnf)
        (repeat (first | (refine Both.lit_true ?_; conv => whnf) | (refine Both.lit_false ?_; conv => whnf) | (refine Need.mk (by first | omega | exact ⟨by omega, by omega⟩ | rfl | exact ⟨rfl, rfl⟩) ?_; conv => whnf)))
        refine CallVC.of [] sum_k ⟨[Crc.seal_ []], .inl rfl, by show 1 < 1000000; decide, by simp [Crc.seal_, Crc.le_length], ?_⟩
        (conv => whnf)
        (repeat (first | (refine Both.lit_true ?_; conv => whnf) | (refine Both.lit_false ?_; conv => whnf) | (refine Need.mk (by first | omega | exact ⟨by omega, by omega⟩ | rfl | exact ⟨rfl, rfl⟩) ?_; conv => whnf)))
        refine ⟨_, _, WeakV.drop (congrArg SV.bool ?_), h⟩
        simp only [List.flatten_cons, List.flatten_nil, List.append_nil, residue]
        simp
end Go.LX
