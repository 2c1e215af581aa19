import Derived.Test.YtjdlbffcldndhaaCrcF
set_option maxRecDepth 100000
set_option autoImplicit false
set_option linter.unusedVariables false
set_option linter.unusedSimpArgs false
namespace Go.LX
open Go.Proofs

def law3S : Spec := fun args H Q => match args, H with
  | [.str a, .str b, .int .u32 x], [] => (∃ r : BitVec 32, x = u32 r) ∧ Q (.bool true) []
  | _, _ => False
theorem tells_law : Meets Try.prog [] 6 law3S := by
  refine meets_of Γok Try.func6 rfl ?_
  intro args H Q h
  unfold law3S at h
  split at h
  case h_2 => exact h.elim
  rename_i a b x
  obtain ⟨⟨r, rfl⟩, h⟩ := h
  (refine sx_sound Γok _ ?_; conv => whnf)
  refine CallVC.of [] awake_k ?_
  (conv => whnf)
  (repeat (first | (refine Both.lit_true ?_; conv => whnf) | (refine Both.lit_false ?_; conv => whnf) | (refine Need.mk (by first | omega | exact ⟨by omega, by omega⟩ | rfl | exact ⟨rfl, rfl⟩) ?_; conv => whnf)))
  refine Both.dec (fun hlt => ?_) (fun hge => ?_)
  · (conv => whnf)
    (repeat (first | (refine Both.lit_true ?_; conv => whnf) | (refine Both.lit_false ?_; conv => whnf) | (refine Need.mk (by first | omega | exact ⟨by omega, by omega⟩ | rfl | exact ⟨rfl, rfl⟩) ?_; conv => whnf)))
    exact ⟨_, _, WeakV.drop rfl, h⟩
  · (conv => whnf)
    (repeat (first | (refine Both.lit_true ?_; conv => whnf) | (refine Both.lit_false ?_; conv => whnf) | (refine Need.mk (by first | omega | exact ⟨by omega, by omega⟩ | rfl | exact ⟨rfl, rfl⟩) ?_; conv => whnf)))
    refine Both.dec (fun hlt => ?_) (fun hgb => ?_)
    · (conv => whnf)
      exact ⟨_, _, WeakV.drop rfl, h⟩
    · (conv => whnf)
      refine CallVC.of [] sum_k ⟨[a, b], .inl rfl, by show 2 < 1000000; decide, by simp; omega, ?_⟩
      (conv => whnf)
      (repeat (first | (refine Both.lit_true ?_; conv => whnf) | (refine Both.lit_false ?_; conv => whnf) | (refine Need.mk (by first | omega | exact ⟨by omega, by omega⟩ | rfl | exact ⟨rfl, rfl⟩) ?_; conv => whnf)))
      refine CallVC.of [] sum2_k ⟨by simp; omega, ?_⟩
      (conv => whnf)
      (repeat (first | (refine Both.lit_true ?_; conv => whnf) | (refine Both.lit_false ?_; conv => whnf) | (refine Need.mk (by first | omega | exact ⟨by omega, by omega⟩ | rfl | exact ⟨rfl, rfl⟩) ?_; conv => whnf)))
      refine Both.sure (by rw [List.flatten_cons, List.flatten_cons, List.flatten_nil, List.append_nil]) ?_
      (conv => whnf)
      refine CallVC.of [] sum_k ⟨[], .inr ⟨rfl, rfl⟩, by simp, by simp, ?_⟩
      (conv => whnf)
      (repeat (first | (refine Both.lit_true ?_; conv => whnf) | (refine Both.lit_false ?_; conv => whnf) | (refine Need.mk (by first | omega | exact ⟨by omega, by omega⟩ | rfl | exact ⟨rfl, rfl⟩) ?_; conv => whnf)))
      refine CallVC.of [] upd_k ⟨_, rfl, by omega, ?_⟩
      (conv => whnf)
      (repeat (first | (refine Both.lit_true ?_; conv => whnf) | (refine Both.lit_false ?_; conv => whnf) | (refine Need.mk (by first | omega | exact ⟨by omega, by omega⟩ | rfl | exact ⟨rfl, rfl⟩) ?_; conv => whnf)))
      refine CallVC.of [] upd2_k ⟨_, rfl, by omega, ?_⟩
      (conv => whnf)
      (repeat (first | (refine Both.lit_true ?_; conv => whnf) | (refine Both.lit_false ?_; conv => whnf) | (refine Need.mk (by first | omega | exact ⟨by omega, by omega⟩ | rfl | exact ⟨rfl, rfl⟩) ?_; conv => whnf)))
      refine Both.sure rfl ?_
      (conv => whnf)
      (repeat (first | (refine Both.lit_true ?_; conv => whnf) | (refine Both.lit_false ?_; conv => whnf) | (refine Need.mk (by first | omega | exact ⟨by omega, by omega⟩ | rfl | exact ⟨rfl, rfl⟩) ?_; conv => whnf)))
      refine CallVC.of [] les_k ⟨_, rfl, ?_⟩
      (conv => whnf)
      (repeat (first | (refine Both.lit_true ?_; conv => whnf) | (refine Both.lit_false ?_; conv => whnf) | (refine Need.mk (by first | omega | exact ⟨by omega, by omega⟩ | rfl | exact ⟨rfl, rfl⟩) ?_; conv => whnf)))
      refine CallVC.of [] les2_k ⟨_, rfl, ?_⟩
      (conv => whnf)
      (repeat (first | (refine Both.lit_true ?_; conv => whnf) | (refine Both.lit_false ?_; conv => whnf) | (refine Need.mk (by first | omega | exact ⟨by omega, by omega⟩ | rfl | exact ⟨rfl, rfl⟩) ?_; conv => whnf)))
      refine Both.sure rfl ?_
      (conv => whnf)
      (repeat (first | (refine Both.lit_true ?_; conv => whnf) | (refine Both.lit_false ?_; conv => whnf) | (refine Need.mk (by first | omega | exact ⟨by omega, by omega⟩ | rfl | exact ⟨rfl, rfl⟩) ?_; conv => whnf)))
      refine CallVC.of [] seal_k ⟨by omega, ?_⟩
      (conv => whnf)
      (repeat (first | (refine Both.lit_true ?_; conv => whnf) | (refine Both.lit_false ?_; conv => whnf) | (refine Need.mk (by first | omega | exact ⟨by omega, by omega⟩ | rfl | exact ⟨rfl, rfl⟩) ?_; conv => whnf)))
      refine CallVC.of [] seal2_k ⟨by omega, ?_⟩
      (conv => whnf)
      (repeat (first | (refine Both.lit_true ?_; conv => whnf) | (refine Both.lit_false ?_; conv => whnf) | (refine Need.mk (by first | omega | exact ⟨by omega, by omega⟩ | rfl | exact ⟨rfl, rfl⟩) ?_; conv => whnf)))
      refine Both.sure rfl ?_
      (conv => whnf)
      (repeat (first | (refine Both.lit_true ?_; conv => whnf) | (refine Both.lit_false ?_; conv => whnf) | (refine Need.mk (by first | omega | exact ⟨by omega, by omega⟩ | rfl | exact ⟨rfl, rfl⟩) ?_; conv => whnf)))
      refine CallVC.of [] right_k ⟨by omega, ?_⟩
      (conv => whnf)
      (repeat (first | (refine Both.lit_true ?_; conv => whnf) | (refine Both.lit_false ?_; conv => whnf) | (refine Need.mk (by first | omega | exact ⟨by omega, by omega⟩ | rfl | exact ⟨rfl, rfl⟩) ?_; conv => whnf)))
      refine CallVC.of [] right2_k ⟨by omega, ?_⟩
      (conv => whnf)
      (repeat (first | (refine Both.lit_true ?_; conv => whnf) | (refine Both.lit_false ?_; conv => whnf) | (refine Need.mk (by first | omega | exact ⟨by omega, by omega⟩ | rfl | exact ⟨rfl, rfl⟩) ?_; conv => whnf)))
      refine ⟨_, _, WeakV.drop (congrArg SV.bool ?_), h⟩
      simp

theorem seal_len (s : List UInt8) : (Crc.seal_ s).length = s.length + 4 := by rw [Crc.seal_, List.length_append, Crc.le_length]
theorem rightB_seal (s : List UInt8) : rightB (Crc.seal_ s) = true := by
  have h := Crc.right_seal s
  unfold rightB
  rw [Bool.and_eq_true]
  exact ⟨decide_eq_true h.1, decide_eq_true h.2⟩
theorem seal_take (a : List UInt8) : List.drop (Int.toNat 0) (List.take (a.length : Int).toNat (Crc.seal_ a)) = a := by
  rw [Int.toNat_natCast, Crc.seal_, List.take_left']
  · rfl
  · rfl
theorem flat1 (a : List UInt8) : [a].flatten = a := by simp
theorem flat2 (a b : List UInt8) : [a, b].flatten = a ++ b := by simp
theorem seal_drop (a : List UInt8) : List.drop a.length (Crc.seal_ a) = Crc.le 4 (Crc.sum a) := by
  rw [Crc.seal_, List.drop_left']
  rfl
theorem upd_sum (a b : List UInt8) : ~~~ Crc.over (~~~ Crc.sum a) b = Crc.sum (a ++ b) := by
  unfold Crc.sum
  rw [BitVec.not_not, ← Crc.over_append]
theorem right_eq (a b : List UInt8) (h : b.length = 4) : rightB (a ++ b) = decide (a ++ b = Crc.seal_ a) := by
  unfold rightB
  have hl : (a ++ b).length - 4 = a.length := by simp; omega
  have h4 : 4 ≤ (a ++ b).length := by simp; omega
  rw [hl, List.take_left' rfl, List.drop_left' rfl]
  simp only [h4, decide_true, Bool.true_and]
  congr 1
  apply propext
  unfold Crc.seal_
  constructor
  · intro e; rw [e]
  · intro e; exact (List.append_cancel_left e).symm
def law2S : Spec := fun args H Q => match args, H with
  | [.str a, .str b], [] => Q (.bool true) []
  | _, _ => False
theorem seals_law : Meets Try.prog [] 7 law2S := by
  refine meets_of Γok Try.func7 rfl ?_
  intro args H Q h
  unfold law2S at h
  split at h
  case h_2 => exact h.elim
  rename_i a b
  (refine sx_sound Γok _ ?_; conv => whnf)
  refine CallVC.of [] awake_k ?_
  (conv => whnf)
  (repeat (first | (refine Both.lit_true ?_; conv => whnf) | (refine Both.lit_false ?_; conv => whnf) | (refine Need.mk (by first | omega | exact ⟨by omega, by omega⟩ | rfl | exact ⟨rfl, rfl⟩) ?_; conv => whnf)))
  refine Both.dec (fun hlt => ?_) (fun hge => ?_)
  · (conv => whnf)
    (repeat (first | (refine Both.lit_true ?_; conv => whnf) | (refine Both.lit_false ?_; conv => whnf) | (refine Need.mk (by first | omega | exact ⟨by omega, by omega⟩ | rfl | exact ⟨rfl, rfl⟩) ?_; conv => whnf)))
    exact ⟨_, _, WeakV.drop rfl, h⟩
  · (conv => whnf)
    (repeat (first | (refine Both.lit_true ?_; conv => whnf) | (refine Both.lit_false ?_; conv => whnf) | (refine Need.mk (by first | omega | exact ⟨by omega, by omega⟩ | rfl | exact ⟨rfl, rfl⟩) ?_; conv => whnf)))
    refine Both.dec (fun hlt => ?_) (fun hgb => ?_)
    · (conv => whnf)
      exact ⟨_, _, WeakV.drop rfl, h⟩
    · (conv => whnf)
      refine CallVC.of [] seal_k ⟨by omega, ?_⟩
      (conv => whnf)
      (repeat (first | (refine Both.lit_true ?_; conv => whnf) | (refine Both.lit_false ?_; conv => whnf) | (refine Need.mk (by first | omega | exact ⟨by omega, by omega⟩ | rfl | exact ⟨rfl, rfl⟩) ?_; conv => whnf)))
      refine CallVC.of [] right_k ⟨by rw [seal_len]; omega, ?_⟩
      (conv => whnf)
      refine Both.of_false (by rw [rightB_seal]; rfl) ?_
      (conv => whnf)
      (repeat (first | (refine Both.lit_true ?_; conv => whnf) | (refine Both.lit_false ?_; conv => whnf) | (refine Need.mk (by first | omega | exact ⟨by omega, by omega⟩ | rfl | exact ⟨rfl, rfl⟩) ?_; conv => whnf)))
      rw [seal_len]
      refine Both.of_false (by rw [wrap_i64 (by omega) (by omega)]; simp) ?_
      (conv => whnf)
      (repeat (first | (refine Both.lit_true ?_; conv => whnf) | (refine Both.lit_false ?_; conv => whnf) | (refine Need.mk (by first | omega | exact ⟨by omega, by omega⟩ | rfl | exact ⟨rfl, rfl⟩) ?_; conv => whnf)))
      refine Need.mk ⟨by omega, by omega, by rw [seal_len]; omega⟩ ?_
      (conv => whnf)
      (repeat (first | (refine Both.lit_true ?_; conv => whnf) | (refine Both.lit_false ?_; conv => whnf) | (refine Need.mk (by first | omega | exact ⟨by omega, by omega⟩ | rfl | exact ⟨rfl, rfl⟩) ?_; conv => whnf)))
      refine Both.of_false (by rw [seal_take]; simp) ?_
      (conv => whnf)
      (repeat (first | (refine Both.lit_true ?_; conv => whnf) | (refine Both.lit_false ?_; conv => whnf) | (refine Need.mk (by first | omega | exact ⟨by omega, by omega⟩ | rfl | exact ⟨rfl, rfl⟩) ?_; conv => whnf)))
      refine Both.cases (fun h4 => ?_) (fun h4 => ?_)
      · (conv => whnf)
        (repeat (first | (refine Both.lit_true ?_; conv => whnf) | (refine Both.lit_false ?_; conv => whnf) | (refine Need.mk (by first | omega | exact ⟨by omega, by omega⟩ | rfl | exact ⟨rfl, rfl⟩) ?_; conv => whnf)))
        refine CallVC.of [] right_k ⟨by simp; omega, ?_⟩
        (conv => whnf)
        (repeat (first | (refine Both.lit_true ?_; conv => whnf) | (refine Both.lit_false ?_; conv => whnf) | (refine Need.mk (by first | omega | exact ⟨by omega, by omega⟩ | rfl | exact ⟨rfl, rfl⟩) ?_; conv => whnf)))
        refine Both.of_false (by rw [right_eq a b (by have := of_decide_eq_true h4; omega)]; simp) ?_
        (conv => whnf)
        (repeat (first | (refine Both.lit_true ?_; conv => whnf) | (refine Both.lit_false ?_; conv => whnf) | (refine Need.mk (by first | omega | exact ⟨by omega, by omega⟩ | rfl | exact ⟨rfl, rfl⟩) ?_; conv => whnf)))
        refine DrawVC.all Γok (by kernel_rfl) (by kernel_rfl) ?_
        (conv => whnf)
        (repeat (first | (exact Out.same; conv => whnf) | (refine Both.lit_true ?_; conv => whnf) | (refine Both.lit_false ?_; conv => whnf) | (apply QStep.go; conv => whnf) | (refine Need.mk (by first | omega | exact ⟨by omega, by omega⟩ | rfl | exact ⟨rfl, rfl⟩) ?_; conv => whnf)))
        refine CallVC.of [] sum_k ⟨[a], .inl rfl, by show 1 < 1000000; decide, by simp; omega, ?_⟩
        (conv => whnf)
        (repeat (first | (exact Out.same; conv => whnf) | (refine Both.lit_true ?_; conv => whnf) | (refine Both.lit_false ?_; conv => whnf) | (apply QStep.go; conv => whnf) | (refine Need.mk (by first | omega | exact ⟨by omega, by omega⟩ | rfl | exact ⟨rfl, rfl⟩) ?_; conv => whnf)))
        refine CallVC.of [] upd_k ⟨_, rfl, by omega, ?_⟩
        (conv => whnf)
        (repeat (first | (exact Out.same; conv => whnf) | (refine Both.lit_true ?_; conv => whnf) | (refine Both.lit_false ?_; conv => whnf) | (apply QStep.go; conv => whnf) | (refine Need.mk (by first | omega | exact ⟨by omega, by omega⟩ | rfl | exact ⟨rfl, rfl⟩) ?_; conv => whnf)))
        refine CallVC.of [] sum_k ⟨[a, b], .inl rfl, by show 2 < 1000000; decide, by simp; omega, ?_⟩
        (conv => whnf)
        (repeat (first | (exact Out.same; conv => whnf) | (refine Both.lit_true ?_; conv => whnf) | (refine Both.lit_false ?_; conv => whnf) | (apply QStep.go; conv => whnf) | (refine Need.mk (by first | omega | exact ⟨by omega, by omega⟩ | rfl | exact ⟨rfl, rfl⟩) ?_; conv => whnf)))
        refine Both.sure (by (repeat rw [flat1]); (repeat rw [flat2]); first | done | rw [upd_sum]) ?_
        (conv => whnf)
        (repeat (first | (exact Out.same; conv => whnf) | (refine Both.lit_true ?_; conv => whnf) | (refine Both.lit_false ?_; conv => whnf) | (apply QStep.go; conv => whnf) | (refine Need.mk (by first | omega | exact ⟨by omega, by omega⟩ | rfl | exact ⟨rfl, rfl⟩) ?_; conv => whnf)))
        refine CallVC.of [] sum_k ⟨[a, b], .inl rfl, by show 2 < 1000000; decide, by simp; omega, ?_⟩
        (conv => whnf)
        (repeat (first | (exact Out.same; conv => whnf) | (refine Both.lit_true ?_; conv => whnf) | (refine Both.lit_false ?_; conv => whnf) | (apply QStep.go; conv => whnf) | (refine Need.mk (by first | omega | exact ⟨by omega, by omega⟩ | rfl | exact ⟨rfl, rfl⟩) ?_; conv => whnf)))
        refine CallVC.of [] sum_k ⟨[a ++ b], .inl rfl, by show 1 < 1000000; decide, by simp; omega, ?_⟩
        (conv => whnf)
        (repeat (first | (exact Out.same; conv => whnf) | (refine Both.lit_true ?_; conv => whnf) | (refine Both.lit_false ?_; conv => whnf) | (apply QStep.go; conv => whnf) | (refine Need.mk (by first | omega | exact ⟨by omega, by omega⟩ | rfl | exact ⟨rfl, rfl⟩) ?_; conv => whnf)))
        refine Both.sure (by (repeat rw [flat1]); (repeat rw [flat2])) ?_
        (conv => whnf)
        (repeat (first | (exact Out.same; conv => whnf) | (refine Both.lit_true ?_; conv => whnf) | (refine Both.lit_false ?_; conv => whnf) | (apply QStep.go; conv => whnf) | (refine Need.mk (by first | omega | exact ⟨by omega, by omega⟩ | rfl | exact ⟨rfl, rfl⟩) ?_; conv => whnf)))
        refine CallVC.of [] sum_k ⟨[a], .inl rfl, by show 1 < 1000000; decide, by simp; omega, ?_⟩
        (conv => whnf)
        (repeat (first | (exact Out.same; conv => whnf) | (refine Both.lit_true ?_; conv => whnf) | (refine Both.lit_false ?_; conv => whnf) | (apply QStep.go; conv => whnf) | (refine Need.mk (by first | omega | exact ⟨by omega, by omega⟩ | rfl | exact ⟨rfl, rfl⟩) ?_; conv => whnf)))
        refine CallVC.of [] les_k ⟨_, rfl, ?_⟩
        (conv => whnf)
        (repeat (first | (exact Out.same; conv => whnf) | (refine Both.lit_true ?_; conv => whnf) | (refine Both.lit_false ?_; conv => whnf) | (apply QStep.go; conv => whnf) | (refine Need.mk (by first | omega | exact ⟨by omega, by omega⟩ | rfl | exact ⟨rfl, rfl⟩) ?_; conv => whnf)))
        refine Need.mk ⟨by omega, by rw [seal_len]; omega, by rw [seal_len]; omega⟩ ?_
        (conv => whnf)
        (repeat (first | (exact Out.same; conv => whnf) | (refine Both.lit_true ?_; conv => whnf) | (refine Both.lit_false ?_; conv => whnf) | (apply QStep.go; conv => whnf) | (refine Need.mk (by first | omega | exact ⟨by omega, by omega⟩ | rfl | exact ⟨rfl, rfl⟩) ?_; conv => whnf)))
        refine ⟨_, _, WeakV.drop (congrArg SV.bool ?_), h⟩
        rw [flat1, Int.toNat_natCast, Int.toNat_natCast, List.take_length, seal_drop]
        simp
      · (conv => whnf)
        (repeat (first | (refine Both.lit_true ?_; conv => whnf) | (refine Both.lit_false ?_; conv => whnf) | (refine Need.mk (by first | omega | exact ⟨by omega, by omega⟩ | rfl | exact ⟨rfl, rfl⟩) ?_; conv => whnf)))
        refine DrawVC.all Γok (by kernel_rfl) (by kernel_rfl) ?_
        (conv => whnf)
        (repeat (first | (exact Out.same; conv => whnf) | (refine Both.lit_true ?_; conv => whnf) | (refine Both.lit_false ?_; conv => whnf) | (apply QStep.go; conv => whnf) | (refine Need.mk (by first | omega | exact ⟨by omega, by omega⟩ | rfl | exact ⟨rfl, rfl⟩) ?_; conv => whnf)))
        refine CallVC.of [] sum_k ⟨[a], .inl rfl, by show 1 < 1000000; decide, by simp; omega, ?_⟩
        (conv => whnf)
        (repeat (first | (exact Out.same; conv => whnf) | (refine Both.lit_true ?_; conv => whnf) | (refine Both.lit_false ?_; conv => whnf) | (apply QStep.go; conv => whnf) | (refine Need.mk (by first | omega | exact ⟨by omega, by omega⟩ | rfl | exact ⟨rfl, rfl⟩) ?_; conv => whnf)))
        refine CallVC.of [] upd_k ⟨_, rfl, by omega, ?_⟩
        (conv => whnf)
        (repeat (first | (exact Out.same; conv => whnf) | (refine Both.lit_true ?_; conv => whnf) | (refine Both.lit_false ?_; conv => whnf) | (apply QStep.go; conv => whnf) | (refine Need.mk (by first | omega | exact ⟨by omega, by omega⟩ | rfl | exact ⟨rfl, rfl⟩) ?_; conv => whnf)))
        refine CallVC.of [] sum_k ⟨[a, b], .inl rfl, by show 2 < 1000000; decide, by simp; omega, ?_⟩
        (conv => whnf)
        (repeat (first | (exact Out.same; conv => whnf) | (refine Both.lit_true ?_; conv => whnf) | (refine Both.lit_false ?_; conv => whnf) | (apply QStep.go; conv => whnf) | (refine Need.mk (by first | omega | exact ⟨by omega, by omega⟩ | rfl | exact ⟨rfl, rfl⟩) ?_; conv => whnf)))
        refine Both.sure (by (repeat rw [flat1]); (repeat rw [flat2]); first | done | rw [upd_sum]) ?_
        (conv => whnf)
        (repeat (first | (exact Out.same; conv => whnf) | (refine Both.lit_true ?_; conv => whnf) | (refine Both.lit_false ?_; conv => whnf) | (apply QStep.go; conv => whnf) | (refine Need.mk (by first | omega | exact ⟨by omega, by omega⟩ | rfl | exact ⟨rfl, rfl⟩) ?_; conv => whnf)))
        refine CallVC.of [] sum_k ⟨[a, b], .inl rfl, by show 2 < 1000000; decide, by simp; omega, ?_⟩
        (conv => whnf)
        (repeat (first | (exact Out.same; conv => whnf) | (refine Both.lit_true ?_; conv => whnf) | (refine Both.lit_false ?_; conv => whnf) | (apply QStep.go; conv => whnf) | (refine Need.mk (by first | omega | exact ⟨by omega, by omega⟩ | rfl | exact ⟨rfl, rfl⟩) ?_; conv => whnf)))
        refine CallVC.of [] sum_k ⟨[a ++ b], .inl rfl, by show 1 < 1000000; decide, by simp; omega, ?_⟩
        (conv => whnf)
        (repeat (first | (exact Out.same; conv => whnf) | (refine Both.lit_true ?_; conv => whnf) | (refine Both.lit_false ?_; conv => whnf) | (apply QStep.go; conv => whnf) | (refine Need.mk (by first | omega | exact ⟨by omega, by omega⟩ | rfl | exact ⟨rfl, rfl⟩) ?_; conv => whnf)))
        refine Both.sure (by (repeat rw [flat1]); (repeat rw [flat2])) ?_
        (conv => whnf)
        (repeat (first | (exact Out.same; conv => whnf) | (refine Both.lit_true ?_; conv => whnf) | (refine Both.lit_false ?_; conv => whnf) | (apply QStep.go; conv => whnf) | (refine Need.mk (by first | omega | exact ⟨by omega, by omega⟩ | rfl | exact ⟨rfl, rfl⟩) ?_; conv => whnf)))
        refine CallVC.of [] sum_k ⟨[a], .inl rfl, by show 1 < 1000000; decide, by simp; omega, ?_⟩
        (conv => whnf)
        (repeat (first | (exact Out.same; conv => whnf) | (refine Both.lit_true ?_; conv => whnf) | (refine Both.lit_false ?_; conv => whnf) | (apply QStep.go; conv => whnf) | (refine Need.mk (by first | omega | exact ⟨by omega, by omega⟩ | rfl | exact ⟨rfl, rfl⟩) ?_; conv => whnf)))
        refine CallVC.of [] les_k ⟨_, rfl, ?_⟩
        (conv => whnf)
        (repeat (first | (exact Out.same; conv => whnf) | (refine Both.lit_true ?_; conv => whnf) | (refine Both.lit_false ?_; conv => whnf) | (apply QStep.go; conv => whnf) | (refine Need.mk (by first | omega | exact ⟨by omega, by omega⟩ | rfl | exact ⟨rfl, rfl⟩) ?_; conv => whnf)))
        refine Need.mk ⟨by omega, by rw [seal_len]; omega, by rw [seal_len]; omega⟩ ?_
        (conv => whnf)
        (repeat (first | (exact Out.same; conv => whnf) | (refine Both.lit_true ?_; conv => whnf) | (refine Both.lit_false ?_; conv => whnf) | (apply QStep.go; conv => whnf) | (refine Need.mk (by first | omega | exact ⟨by omega, by omega⟩ | rfl | exact ⟨rfl, rfl⟩) ?_; conv => whnf)))
        refine ⟨_, _, WeakV.drop (congrArg SV.bool ?_), h⟩
        rw [flat1, Int.toNat_natCast, Int.toNat_natCast, List.take_length, seal_drop]
        simp
end Go.LX
