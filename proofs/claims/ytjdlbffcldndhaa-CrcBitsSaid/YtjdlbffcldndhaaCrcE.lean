import Derived.Test.YtjdlbffcldndhaaCrcD
set_option maxRecDepth 100000
set_option autoImplicit false
set_option linter.unusedVariables false
set_option linter.unusedSimpArgs false
namespace Go.LX
open Go.Proofs

def rightB (s : List UInt8) : Bool := decide (4 ≤ s.length) && decide (Crc.le 4 (Crc.sum (s.take (s.length - 4))) = s.drop (s.length - 4))
def rightS : Spec := fun args H Q => match args, H with
  | [.str s], [] => s.length < 1000000 ∧ Q (.bool (rightB s)) []
  | _, _ => False
theorem sub_all (r : BitVec 32) : IntKind.u32.wrap (4294967295 - u32 r) = u32 (~~~ r) := by
  rw [show (4294967295 : Int) = u32 (BitVec.allOnes 32) from rfl, sub_u32, BitVec.allOnes_sub_eq_not]
theorem wide_go (x : BitVec 32) (b : UInt8) : bitXor .u32 (u32 x) (IntKind.u32.wrap (b.toNat : Int)) = u32 (x ^^^ Crc.wide b) := by
  have : IntKind.u32.wrap (b.toNat : Int) = u32 (Crc.wide b) := by
    have hb : b.toNat < 256 := b.toNat_lt
    rw [wrap_u32_mod]
    unfold u32 Crc.wide
    rw [BitVec.toNat_setWidth]
    show ((b.toNat : Int) % 4294967296) = ((b.toNat % 4294967296 : Nat) : Int)
    omega
  rw [this, xor_u32]
theorem over2_go (r : BitVec 32) (s : List UInt8) {k : Nat} (h : k < s.length) : Crc.steps 8 (Crc.over r (s.take k) ^^^ Crc.wide (s.getD k 0)) = Crc.over r (s.take (k + 1)) := by
  rw [List.take_succ_eq_append_getElem h, Crc.over_append, List.getD_eq_getElem?_getD, List.getElem?_eq_getElem h]
  rfl
theorem half_go (r : BitVec 32) : IntKind.u32.wrap ((u32 r).tdiv 2) = u32 (r >>> 1) := by
  have hn := u32_nonneg r
  have hl := u32_lt r
  rw [Int.tdiv_eq_ediv_of_nonneg hn, wrap_u32_mod]
  unfold u32
  rw [BitVec.toNat_ushiftRight, Nat.shiftRight_eq_div_pow]
  unfold u32 at hl
  omega
theorem lsb_go (r : BitVec 32) : (u32 r).tmod 2 = 1 ↔ r.getLsbD 0 = true := by
  rw [Int.tmod_eq_emod_of_nonneg (u32_nonneg r)]
  unfold u32
  rw [show r.getLsbD 0 = r.toNat.testBit 0 from rfl, Nat.testBit_zero]
  simp
  omega
theorem step_odd (r : BitVec 32) (h : (u32 r).tmod 2 = 1) : bitXor .u32 (IntKind.u32.wrap ((u32 r).tdiv 2)) 3988292384 = u32 (Crc.step r) := by
  rw [half_go, show (3988292384 : Int) = u32 Crc.poly from rfl, xor_u32, Crc.step, (lsb_go r).1 h]
  rfl
theorem step_even (r : BitVec 32) (h : ¬ (u32 r).tmod 2 = 1) : IntKind.u32.wrap ((u32 r).tdiv 2) = u32 (Crc.step r) := by
  have : r.getLsbD 0 = false := by
    cases hb : r.getLsbD 0 with
    | false => rfl
    | true => exact absurd ((lsb_go r).2 hb) h
  rw [half_go, Crc.step, this]
  simp
theorem right2_go (s : List UInt8) (h : 4 ≤ s.length) : decide (s = Crc.seal_ (List.drop (Int.toNat 0) (List.take ((s.length : Int) - 4).toNat s))) = rightB s := by
  unfold rightB
  rw [show ((s.length : Int) - 4).toNat = s.length - 4 by omega, show List.drop (Int.toNat 0) (List.take (s.length - 4) s) = List.take (s.length - 4) s from rfl]
  simp only [h, decide_true, Bool.true_and]
  congr 1
  apply propext
  unfold Crc.seal_
  constructor
  · intro e
    have e2 : List.take (s.length - 4) s ++ s.drop (s.length - 4) = List.take (s.length - 4) s ++ Crc.le 4 (Crc.sum (List.take (s.length - 4) s)) := by rw [List.take_append_drop]; exact e
    exact (List.append_cancel_left e2).symm
  · intro e
    rw [e, List.take_append_drop]
theorem cut_go (s : List UInt8) (h : 4 ≤ s.length) : List.drop (Int.toNat 0) (List.take ((s.length : Int) - 4).toNat s) = s.take (s.length - 4) := by
  rw [show ((s.length : Int) - 4).toNat = s.length - 4 by omega]; rfl
theorem right_go (s : List UInt8) (h : 4 ≤ s.length) : decide (Crc.le 4 (Crc.sum [s.take (s.length - 4)].flatten) = List.drop ((s.length : Int) - 4).toNat (List.take (s.length : Int).toNat s)) = rightB s := by
  unfold rightB
  rw [show ((s.length : Int) - 4).toNat = s.length - 4 by omega, Int.toNat_natCast, List.take_length, List.flatten_cons, List.flatten_nil, List.append_nil]
  simp [h]
theorem right_no (s : List UInt8) (h : ¬ 4 ≤ s.length) : false = rightB s := by
  unfold rightB
  simp [h]
theorem right_c : Meets Try.prog [] 12 rightS := by
  refine meets_of Γok Try.func12 rfl ?_
  intro args H Q h
  unfold rightS at h
  split at h
  case h_2 => exact h.elim
  obtain ⟨hs, h⟩ := h
  rename_i s
  (refine sx_sound Γok _ ?_; conv => whnf)
  (repeat (first | (refine Both.lit_true ?_; conv => whnf) | (refine Both.lit_false ?_; conv => whnf) | (refine Need.mk (by first | omega | exact ⟨by omega, by omega⟩ | rfl | exact ⟨rfl, rfl⟩) ?_; conv => whnf)))
  rw [wrap_i64 (n := (s.length : Int) - 4) (by omega) (by omega)]
  refine DrawVC.all Γok (by kernel_rfl) (by kernel_rfl) ?_
  (conv => whnf)
  (repeat (first | (exact Out.same; conv => whnf) | (refine Both.lit_true ?_; conv => whnf) | (refine Both.lit_false ?_; conv => whnf) | (apply QStep.go; conv => whnf) | (refine Need.mk (by first | omega | exact ⟨by omega, by omega⟩ | rfl | exact ⟨rfl, rfl⟩) ?_; conv => whnf)))
  refine Both.dec (fun hlt => ?_) (fun hge => ?_)
  · (conv => whnf)
    (repeat (first | (exact Out.same; conv => whnf) | (refine Both.lit_true ?_; conv => whnf) | (refine Both.lit_false ?_; conv => whnf) | (apply QStep.go; conv => whnf) | (refine Need.mk (by first | omega | exact ⟨by omega, by omega⟩ | rfl | exact ⟨rfl, rfl⟩) ?_; conv => whnf)))
    refine CallVC.of [] sum_k ?_
    conv => whnf
    refine ⟨[s.take (s.length - 4)], .inl (by rw [cut_go s (by omega)]; rfl), by show 1 < 1000000; decide, (by simp; omega), ?_⟩
    conv => whnf
    (repeat (first | (exact Out.same; conv => whnf) | (refine Both.lit_true ?_; conv => whnf) | (refine Both.lit_false ?_; conv => whnf) | (apply QStep.go; conv => whnf) | (refine Need.mk (by first | omega | exact ⟨by omega, by omega⟩ | rfl | exact ⟨rfl, rfl⟩) ?_; conv => whnf)))
    refine CallVC.of [] les_k ⟨_, rfl, ?_⟩
    conv => whnf
    (repeat (first | (exact Out.same; conv => whnf) | (refine Both.lit_true ?_; conv => whnf) | (refine Both.lit_false ?_; conv => whnf) | (apply QStep.go; conv => whnf) | (refine Need.mk (by first | omega | exact ⟨by omega, by omega⟩ | rfl | exact ⟨rfl, rfl⟩) ?_; conv => whnf)))
    exact ⟨_, _, WeakV.drop (congrArg SV.bool (right_go s (by omega))), h⟩
  · (conv => whnf)
    (repeat (first | (exact Out.same; conv => whnf) | (refine Both.lit_true ?_; conv => whnf) | (refine Both.lit_false ?_; conv => whnf) | (apply QStep.go; conv => whnf) | (refine Need.mk (by first | omega | exact ⟨by omega, by omega⟩ | rfl | exact ⟨rfl, rfl⟩) ?_; conv => whnf)))
    exact ⟨_, _, WeakV.drop (congrArg SV.bool (right_no s (by omega))), h⟩
theorem right_k : Contract Try.prog [] 12 rightS := ⟨⟨⟨_, rfl, rfl, rfl⟩⟩, right_c⟩
def stepS : Spec := fun args H Q => match args, H with
  | [.int .u32 x], [] => ∃ r : BitVec 32, x = u32 r ∧ Q (.int .u32 (u32 (Crc.step r))) []
  | _, _ => False
theorem step_c : Meets Try.prog [] 22 stepS := by
  refine meets_of Γok Try.func22 rfl ?_
  intro args H Q h
  unfold stepS at h
  split at h
  case h_2 => exact h.elim
  obtain ⟨r, rfl, h⟩ := h
  (refine sx_sound Γok _ ?_; conv => whnf)
  (repeat (first | (refine Both.lit_true ?_; conv => whnf) | (refine Both.lit_false ?_; conv => whnf) | (refine Need.mk (by first | omega | exact ⟨by omega, by omega⟩ | rfl | exact ⟨rfl, rfl⟩) ?_; conv => whnf)))
  refine Both.dec (fun hlt => ?_) (fun hge => ?_)
  · (conv => whnf)
    (repeat (first | (refine Both.lit_true ?_; conv => whnf) | (refine Both.lit_false ?_; conv => whnf) | (refine Need.mk (by first | omega | exact ⟨by omega, by omega⟩ | rfl | exact ⟨rfl, rfl⟩) ?_; conv => whnf)))
    exact ⟨_, _, WeakV.drop (congrArg (SV.int .u32) (step_odd r hlt)), h⟩
  · (conv => whnf)
    (repeat (first | (refine Both.lit_true ?_; conv => whnf) | (refine Both.lit_false ?_; conv => whnf) | (refine Need.mk (by first | omega | exact ⟨by omega, by omega⟩ | rfl | exact ⟨rfl, rfl⟩) ?_; conv => whnf)))
    exact ⟨_, _, WeakV.drop (congrArg (SV.int .u32) (step_even r hge)), h⟩
theorem step_k : Contract Try.prog [] 22 stepS := ⟨⟨⟨_, rfl, rfl, rfl⟩⟩, step_c⟩

theorem over2_c : Meets Try.prog [] 20 overS := by
  refine meets_of Γok Try.func20 rfl ?_
  intro args H Q h
  unfold overS at h
  split at h
  case h_2 => exact h.elim
  obtain ⟨r, rfl, hs, h⟩ := h
  rename_i s
  (refine sx_sound Γok _ ?_; conv => whnf)
  refine loop_rule (fun k : Nat => ⟨[.int .u32 (u32 (Crc.over r (s.take k))), .str s, .any, .any, .any, .int .i64 (k : Int), .any, .any, .any, .any, .any, .any, .any, .any, .any, .any, .any, .any, .any, .any, .any, .any, .any, .any, .any, .any], []⟩) (fun k => k ≤ s.length) (fun k => s.length - k) 0 (by omega) ?_ ?_
  · refine Weak.le ?_ ?_
    · (repeat' ((conv => whnf); first | exact True.intro | (refine And.intro ?_ ?_)))
      all_goals rfl
    · (repeat' ((conv => whnf); first | exact True.intro | (refine And.intro ?_ ?_)))
  · intro k hk
    (refine sx_sound Γok _ ?_; conv => whnf)
    refine Both.dec (fun hlt => ?_) (fun hge => ?_)
    · (conv => whnf)
      (repeat (first | (refine Both.lit_true ?_; conv => whnf) | (refine Both.lit_false ?_; conv => whnf) | (refine Need.mk (by first | omega | exact ⟨by omega, by omega⟩ | rfl | exact ⟨rfl, rfl⟩) ?_; conv => whnf)))
      have hg : s.getD ((k : Int)).toNat 0 = s.getD k 0 := by rw [Int.toNat_natCast]
      rw [hg]
      refine loop_rule (fun j : Nat => ⟨[.int .u32 (u32 (Crc.steps j (Crc.over r (s.take k) ^^^ Crc.wide (s.getD k 0)))), .str s, .any, .any, .any, .int .i64 (k : Int), .int .i64 (j : Int), .any, .any, .any, .any, .any, .any, .any, .any, .any, .any, .any, .any, .any, .any, .any, .any, .any, .any, .any], []⟩) (fun j => j ≤ 8) (fun j => 8 - j) 0 (by omega) ?_ ?_
      · refine Weak.le ?_ ?_
        · (repeat' ((conv => whnf); first | exact True.intro | (refine And.intro ?_ ?_)))
          all_goals first | rfl | (rw [wide_go]; rfl)
        · (repeat' ((conv => whnf); first | exact True.intro | (refine And.intro ?_ ?_)))
      · intro j hj
        (refine sx_sound Γok _ ?_; conv => whnf)
        refine Both.dec (fun hlt => ?_) (fun hge => ?_)
        · (conv => whnf)
          refine CallVC.of [] step_k ⟨_, rfl, ?_⟩
          (conv => whnf)
          refine ⟨j + 1, by omega, by omega, Weak.le ?_ ?_⟩
          · (repeat' ((conv => whnf); first | exact True.intro | (refine And.intro ?_ ?_)))
            all_goals first | rfl | (rw [wrap_i64 (by omega) (by omega)]; rfl) | (rw [← Crc.steps_succ]; done)
          · (repeat' ((conv => whnf); first | exact True.intro | (refine And.intro ?_ ?_)))
        · have h8 : j = 8 := by omega
          subst h8
          (conv => whnf)
          refine ⟨k + 1, by omega, by omega, Weak.le ?_ ?_⟩
          · (repeat' ((conv => whnf); first | exact True.intro | (refine And.intro ?_ ?_)))
            all_goals first | rfl | (rw [wrap_i64 (by omega) (by omega)]; rfl) | (rw [over2_go r s (by omega)]; done)
          · (repeat' ((conv => whnf); first | exact True.intro | (refine And.intro ?_ ?_)))
    · have hk' : k = s.length := by omega
      subst hk'
      (conv => whnf)
      exact ⟨_, _, WeakV.drop (congrArg (SV.int .u32) (by rw [List.take_length])), h⟩
theorem over2_k : Contract Try.prog [] 20 overS := ⟨⟨⟨_, rfl, rfl, rfl⟩⟩, over2_c⟩

theorem upd2_c : Meets Try.prog [] 14 updS := by
  refine meets_of Γok Try.func14 rfl ?_
  intro args H Q h
  unfold updS at h
  split at h
  case h_2 => exact h.elim
  obtain ⟨r, rfl, hs, h⟩ := h
  (refine sx_sound Γok _ ?_; conv => whnf)
  refine CallVC.of [] over2_k ⟨~~~ r, sub_all _, hs, ?_⟩
  (conv => whnf)
  refine ⟨_, _, WeakV.drop (congrArg (SV.int .u32) (sub_all _)), h⟩
theorem upd2_k : Contract Try.prog [] 14 updS := ⟨⟨⟨_, rfl, rfl, rfl⟩⟩, upd2_c⟩

def sum2S : Spec := fun args H Q => match args, H with
  | [.str s], [] => s.length < 1000000 ∧ Q (.int .u32 (u32 (Crc.sum s))) []
  | _, _ => False
theorem sum2_c : Meets Try.prog [] 13 sum2S := by
  refine meets_of Γok Try.func13 rfl ?_
  intro args H Q h
  unfold sum2S at h
  split at h
  case h_2 => exact h.elim
  obtain ⟨hs, h⟩ := h
  (refine sx_sound Γok _ ?_; conv => whnf)
  refine CallVC.of [] upd2_k ⟨0, rfl, hs, ?_⟩
  (conv => whnf)
  refine ⟨_, _, WeakV.drop rfl, h⟩
theorem sum2_k : Contract Try.prog [] 13 sum2S := ⟨⟨⟨_, rfl, rfl, rfl⟩⟩, sum2_c⟩
theorem seal2_c : Meets Try.prog [] 17 sealS := by
  refine meets_of Γok Try.func17 rfl ?_
  intro args H Q h
  unfold sealS at h
  split at h
  case h_2 => exact h.elim
  obtain ⟨hs, h⟩ := h
  (refine sx_sound Γok _ ?_; conv => whnf)
  refine CallVC.of [] sum2_k ⟨hs, ?_⟩
  (conv => whnf)
  refine CallVC.of [] les2_k ⟨_, rfl, ?_⟩
  (conv => whnf)
  refine Need.mk (by rw [Crc.le_length]; omega) ?_
  (conv => whnf)
  refine ⟨_, _, WeakV.drop rfl, h⟩
theorem seal2_k : Contract Try.prog [] 17 sealS := ⟨⟨⟨_, rfl, rfl, rfl⟩⟩, seal2_c⟩
theorem right2_c : Meets Try.prog [] 18 rightS := by
  refine meets_of Γok Try.func18 rfl ?_
  intro args H Q h
  unfold rightS at h
  split at h
  case h_2 => exact h.elim
  obtain ⟨hs, h⟩ := h
  rename_i s
  (refine sx_sound Γok _ ?_; conv => whnf)
  refine Both.dec (fun hlt => ?_) (fun hge => ?_)
  · (conv => whnf)
    (repeat (first | (refine Both.lit_true ?_; conv => whnf) | (refine Both.lit_false ?_; conv => whnf) | (refine Need.mk (by first | omega | exact ⟨by omega, by omega⟩ | rfl | exact ⟨rfl, rfl⟩) ?_; conv => whnf)))
    rw [wrap_i64 (n := (s.length : Int) - 4) (by omega) (by omega)]
    (repeat (first | (refine Both.lit_true ?_; conv => whnf) | (refine Both.lit_false ?_; conv => whnf) | (refine Need.mk (by first | omega | exact ⟨by omega, by omega⟩ | rfl | exact ⟨rfl, rfl⟩) ?_; conv => whnf)))
    refine CallVC.of [] seal2_k ⟨by simp; omega, ?_⟩
    (conv => whnf)
    (repeat (first | (refine Both.lit_true ?_; conv => whnf) | (refine Both.lit_false ?_; conv => whnf) | (refine Need.mk (by first | omega | exact ⟨by omega, by omega⟩ | rfl | exact ⟨rfl, rfl⟩) ?_; conv => whnf)))
    exact ⟨_, _, WeakV.drop (congrArg SV.bool (right2_go s (by omega))), h⟩
  · (conv => whnf)
    (repeat (first | (refine Both.lit_true ?_; conv => whnf) | (refine Both.lit_false ?_; conv => whnf) | (refine Need.mk (by first | omega | exact ⟨by omega, by omega⟩ | rfl | exact ⟨rfl, rfl⟩) ?_; conv => whnf)))
    exact ⟨_, _, WeakV.drop (congrArg SV.bool (right_no s (by omega))), h⟩
theorem right2_k : Contract Try.prog [] 18 rightS := ⟨⟨⟨_, rfl, rfl, rfl⟩⟩, right2_c⟩
end Go.LX
