import Derived.Test.YtfbkkhpcmnnmfaaDoorSu
set_option maxRecDepth 100000
set_option maxHeartbeats 2000000
set_option autoImplicit false
set_option linter.unusedVariables false
set_option linter.unusedSimpArgs false
namespace Go.LX
open Go.Proofs

/-! ## The document's block -/
theorem right_go (r : W32) (n : Nat) (h : n ≤ 32) : bitOr .u32 (shrI .u32 (u32 r) (n : Int)) (shlI .u32 (u32 r) ((32 - n : Nat) : Int)) = u32 (rotr r n) := by
  rw [shr_u32 _ _ h, shl_u32 _ _ (by omega), or_u32, rotr, BitVec.or_comm]
def rightS : Spec := fun args H Q => match args, H with
  | [.int .u32 x, .int .i64 k], [] => ∃ (r : W32) (n : Nat), x = u32 r ∧ k = (n : Int) ∧ (0 < n ∧ n < 32) ∧ Q (.int .u32 (u32 (rotr r n))) []
  | _, _ => False
theorem right_c : Meets Tryd.prog [] 31 rightS := by
  refine meets_of Γok Tryd.func31 rfl ?_
  intro args H Q h
  unfold rightS at h
  split at h
  case h_2 => exact h.elim
  obtain ⟨r, n, rfl, rfl, ⟨h1, h2⟩, h⟩ := h
  have hw : IntKind.i64.wrap (32 - (n : Int)) = ((32 - n : Nat) : Int) := by rw [wrap_i64 (by omega) (by omega)]; omega
  have hv : bitOr .u32 (shrI .u32 (u32 r) (n : Int)) (shlI .u32 (u32 r) (IntKind.i64.wrap (32 - (n : Int)))) = u32 (rotr r n) := by rw [hw]; exact right_go r n (by omega)
  have hn0 : 0 ≤ (n : Int) := by omega
  have hn1 : 0 ≤ IntKind.i64.wrap (32 - (n : Int)) := by rw [hw]; omega
  (refine sx_sound Γok _ ?_; conv => whnf)
  (refine DrawVC.any Γok (by kernel_rfl) (by kernel_rfl) (by kernel_rfl) (by rfl) ?_; conv => whnf)
  (repeat (first | (refine Need.mk hn0 ?_; conv => whnf) | (refine Need.mk hn1 ?_; conv => whnf) | (exact Out.same; conv => whnf) | (exact Out1.same; conv => whnf) | (refine QAnd.mk ?_ ?_; conv => whnf) | (apply QStepH.go; conv => whnf) | (refine Both.lit_true ?_; conv => whnf) | (refine Both.lit_false ?_; conv => whnf) | (apply QStep.go; conv => whnf) | (refine Need.mk ?_ ?_; (focus (first | omega | exact ⟨by omega, by omega⟩ | rfl | exact ⟨rfl, rfl⟩ | exact ⟨rfl, by omega, by omega⟩ | exact ⟨by omega, by omega, by omega⟩ | exact ⟨rfl, Nat.le_of_ble_eq_true rfl⟩ | exact Nat.le_of_ble_eq_true rfl | (refine ⟨rfl, rfl, ?_⟩; simp [isFar, ofV0, CV.up, SV.renL, SV.ren] <;> fail) | (refine ⟨rfl, Nat.le_of_ble_eq_true rfl, ?_⟩; simp [isFar, ofV0, CV.up, SV.renL, SV.ren] <;> fail) | (simp only [List.length_append, List.length_drop, List.length_take, List.length_replicate, List.length_map]; omega) | (simp <;> fail))); conv => whnf) | (refine ⟨_, rfl, ?_⟩; conv => whnf)))
  exact ⟨_, _, WeakV.drop (congrArg (SV.int .u32) hv), h⟩
theorem right_k : Contract Tryd.prog [] 31 rightS := ⟨⟨⟨_, rfl, rfl, rfl⟩⟩, right_c⟩
theorem be4_nat (x0 x1 x2 x3 : Nat) (h1 : x1 < 256) (h2 : x2 < 256) (h3 : x3 < 256) :
    ((x0 <<< 24 ||| x1 <<< 16) ||| x2 <<< 8) ||| x3 = x0 * 16777216 + x1 * 65536 + x2 * 256 + x3 := by
  have e1 : x0 <<< 24 ||| x1 <<< 16 = (x0 * 256 + x1) <<< 16 := by
    rw [← Nat.shiftLeft_add_eq_or_of_lt (by rw [Nat.shiftLeft_eq]; omega), Nat.shiftLeft_eq, Nat.shiftLeft_eq, Nat.shiftLeft_eq]
    omega
  have e2 : (x0 * 256 + x1) <<< 16 ||| x2 <<< 8 = ((x0 * 256 + x1) * 256 + x2) <<< 8 := by
    rw [← Nat.shiftLeft_add_eq_or_of_lt (by rw [Nat.shiftLeft_eq]; omega), Nat.shiftLeft_eq, Nat.shiftLeft_eq, Nat.shiftLeft_eq]
    omega
  rw [e1, e2, ← Nat.shiftLeft_add_eq_or_of_lt (by omega), Nat.shiftLeft_eq]
  omega
theorem be4_num (b : List UInt8) : (be4 b).toNat = (b.getD 0 0).toNat * 16777216 + (b.getD 1 0).toNat * 65536 + (b.getD 2 0).toNat * 256 + (b.getD 3 0).toNat := by
  unfold be4 wd
  have h0 := (b.getD 0 0).toNat_lt
  have h1 := (b.getD 1 0).toNat_lt
  have h2 := (b.getD 2 0).toNat_lt
  have h3 := (b.getD 3 0).toNat_lt
  simp only [BitVec.toNat_or, BitVec.toNat_shiftLeft, BitVec.toNat_setWidth, UInt8.toNat_toBitVec]
  revert h0 h1 h2 h3
  generalize (b.getD 0 0).toNat = x0
  generalize (b.getD 1 0).toNat = x1
  generalize (b.getD 2 0).toNat = x2
  generalize (b.getD 3 0).toNat = x3
  intro h0 h1 h2 h3
  have q : ∀ (x k : Nat), x < 256 → k ≤ 24 → ((x % 2 ^ 32) <<< k) % 2 ^ 32 = x <<< k := by
    intro x k hx hk
    rw [Nat.shiftLeft_eq, Nat.shiftLeft_eq, Nat.mod_eq_of_lt (show x < 2 ^ 32 by omega)]
    refine Nat.mod_eq_of_lt ?_
    calc x * 2 ^ k ≤ 255 * 2 ^ 24 := Nat.mul_le_mul (by omega) (Nat.pow_le_pow_right (by decide) hk)
      _ < 2 ^ 32 := by decide
  rw [q x0 24 h0 (by decide), q x1 16 h1 (by decide), q x2 8 h2 (by decide), Nat.mod_eq_of_lt (show x3 < 2 ^ 32 by omega), be4_nat x0 x1 x2 x3 h1 h2 h3]
theorem byte_at {s : List UInt8} {t j : Nat} (h : 4 * t + 4 ≤ s.length) (hj : j < 4) : (List.drop (4 * t) (List.take (4 * t + 4) s)).getD j 0 = s.getD (4 * t + j) 0 := by
  rw [List.getD_eq_getElem?_getD, List.getElem?_drop, List.getElem?_take, if_pos (by omega), List.getD_eq_getElem?_getD]
theorem word_go {s : List UInt8} {t : Nat} (h : 4 * t + 4 ≤ s.length) :
    IntKind.u32.wrap (IntKind.u32.wrap (IntKind.u32.wrap (IntKind.u32.wrap (IntKind.u32.wrap ((s.getD (4 * t) 0).toNat : Int) * 16777216) + IntKind.u32.wrap (IntKind.u32.wrap ((s.getD (4 * t + 1) 0).toNat : Int) * 65536)) + IntKind.u32.wrap (IntKind.u32.wrap ((s.getD (4 * t + 2) 0).toNat : Int) * 256)) + IntKind.u32.wrap ((s.getD (4 * t + 3) 0).toNat : Int)) = u32 (be4 (List.drop (4 * t) (List.take (4 * t + 4) s))) := by
  have hb := be4_num (List.drop (4 * t) (List.take (4 * t + 4) s))
  rw [byte_at h (by decide), byte_at h (by decide), byte_at h (by decide), byte_at h (by decide), show 4 * t + 0 = 4 * t from rfl] at hb
  unfold u32
  rw [hb]
  have h0 := (s.getD (4 * t) 0).toNat_lt
  have h1 := (s.getD (4 * t + 1) 0).toNat_lt
  have h2 := (s.getD (4 * t + 2) 0).toNat_lt
  have h3 := (s.getD (4 * t + 3) 0).toNat_lt
  revert h0 h1 h2 h3
  generalize (s.getD (4 * t) 0).toNat = x0
  generalize (s.getD (4 * t + 1) 0).toNat = x1
  generalize (s.getD (4 * t + 2) 0).toNat = x2
  generalize (s.getD (4 * t + 3) 0).toNat = x3
  intro h0 h1 h2 h3
  simp only [wrap_u32_mod]
  omega
theorem rw1_go (p q x y : W32) : IntKind.u32.wrap (IntKind.u32.wrap (IntKind.u32.wrap (bitXor .u32 (bitXor .u32 (u32 (rotr y 17)) (u32 (rotr y 19))) (shrI .u32 (u32 y) 10) + u32 q) + bitXor .u32 (bitXor .u32 (u32 (rotr x 7)) (u32 (rotr x 18))) (shrI .u32 (u32 x) 3)) + u32 p) = u32 ((p + sg0 x) + q + sg1 y) := by
  have h1 := sg_go x (rotr x 7) (rotr x 18) 3 (by omega)
  have h2 := sg_go y (rotr y 17) (rotr y 19) 10 (by omega)
  have e3 : ((3 : Nat) : Int) = 3 := rfl
  have e10 : ((10 : Nat) : Int) = 10 := rfl
  rw [e3] at h1
  rw [e10] at h2
  rw [h1, h2, add_u32, add_u32, add_u32]
  show u32 (((sg1 y + q) + sg0 x) + p) = _
  congr 1
  ac_rfl
theorem ks_set (l : List W32) (k : Nat) (x : W32) : (ks l).set k (CV.int .u32 (u32 x)) = ks (l.set k x) := by rw [ks, ks, List.map_set]
theorem zer_ks (n : Nat) : zerosOf 1 n [CV.int .u32 0] = ks (List.replicate n 0) := by
  unfold zerosOf ks
  rw [List.map_replicate]
  rfl
theorem not_go (e : W32) : IntKind.u32.wrap (4294967295 - u32 e) = u32 (~~~ e) := by
  have h : ∀ e : W32, 4294967295#32 - e = ~~~ e := fun e => by
    rw [show (4294967295#32) = BitVec.allOnes 32 from rfl, BitVec.allOnes_sub_eq_not]
  rw [show (4294967295 : Int) = u32 4294967295#32 from rfl, sub_u32, h]
end Go.LX
