import Derived.Test.YteejbjdjfngagaaWb
set_option maxRecDepth 100000
set_option autoImplicit false
set_option linter.unusedVariables false
set_option linter.unusedSimpArgs false
namespace Go.LX
open Go.Proofs

/-! ## A first error; a writer -/
def failS : Spec := fun args H Q => match args, H with
  | [.ptr 0 0, .int .i64 n], .cells (.int .i64 e :: r) t :: H' => (t = 33 ∨ t = 56) ∧ Q (.tuple []) (.cells (.int .i64 (if e = 0 then n else e) :: r) t :: H')
  | _, _ => False
theorem fail_c : Meets Try.prog [] 20 failS := by
  refine meets_of Γok Try.func20 rfl ?_
  intro args H Q h
  unfold failS at h
  split at h
  case h_2 => exact h.elim
  obtain ⟨ht, h⟩ := h
  rcases ht with rfl | rfl
  all_goals
    (refine sx_sound Γok _ ?_; conv => whnf)
    (refine ⟨_, rfl, ?_⟩; conv => whnf)
    refine Both.dec (fun he => ?_) (fun he => ?_)
    · (conv => whnf)
      (repeat (first | (refine Both.lit_true ?_; conv => whnf) | (refine Both.lit_false ?_; conv => whnf) | (refine Need.mk (by first | omega | exact ⟨by omega, by omega⟩ | rfl | exact ⟨rfl, rfl⟩ | exact ⟨rfl, Nat.le_of_ble_eq_true rfl⟩) ?_; conv => whnf)))
      rw [if_pos he] at h
      exact ⟨_, _, WeakV.refl _ _ _ _, h⟩
    · (conv => whnf)
      rw [if_neg he] at h
      exact ⟨_, _, WeakV.refl _ _ _ _, h⟩
theorem fail_k : Contract Try.prog [] 20 failS := ⟨⟨⟨_, rfl, rfl, rfl⟩⟩, fail_c⟩
def errS : Spec := fun args H Q => match args, H with
  | [.ptr 0 0], .cells (.int .i64 e :: r) t :: H' => (t = 33 ∨ t = 56) ∧ Q (.int .i64 e) (.cells (.int .i64 e :: r) t :: H')
  | _, _ => False
theorem err_c : Meets Try.prog [] 23 errS := by
  refine meets_of Γok Try.func23 rfl ?_
  intro args H Q h
  unfold errS at h
  split at h
  case h_2 => exact h.elim
  obtain ⟨ht, h⟩ := h
  rcases ht with rfl | rfl
  all_goals
    (refine sx_sound Γok _ ?_; conv => whnf)
    (refine ⟨_, rfl, ?_⟩; conv => whnf)
    exact ⟨_, _, WeakV.refl _ _ _ _, h⟩
theorem err_k : Contract Try.prog [] 23 errS := ⟨⟨⟨_, rfl, rfl, rfl⟩⟩, err_c⟩

/-- A number's bytes, the greatest first. -/
def beb (n : Nat) : Nat → List UInt8
  | 0 => []
  | k + 1 => UInt8.ofNat (n / 256 ^ k) :: beb n k
theorem beb_length (n : Nat) : ∀ k, (beb n k).length = k
  | 0 => rfl
  | k + 1 => by rw [beb, List.length_cons, beb_length n k]
theorem beb_get (n : Nat) : ∀ (k j : Nat), j < k → (beb n k)[j]? = some (UInt8.ofNat (n / 256 ^ (k - 1 - j)))
  | 0, j, h => by omega
  | k + 1, 0, h => by simp [beb]
  | k + 1, j + 1, h => by
    rw [beb, List.getElem?_cons_succ, beb_get n k j (by omega)]
    congr 4
    omega
theorem beb_take (n k j : Nat) (h : j < k) : (beb n k).take j ++ [UInt8.ofNat (n / 256 ^ (k - 1 - j))] = (beb n k).take (j + 1) := by
  have hl : j < (beb n k).length := by rw [beb_length]; exact h
  rw [List.take_succ_eq_append_getElem hl]
  congr 2
  have := beb_get n k j h
  rw [List.getElem?_eq_getElem hl] at this
  exact (Option.some.inj this).symm
/-- The writer's objects. -/
def wr (e : Int) (a : SV) (l : List UInt8) : List LObj := [.cells [.int .i64 e, a, .own 1] 33, .own 5 1 l.length (bys l) true]
def wrN (e : Int) (a : SV) (l : List UInt8) : List LObj := [.cells [.int .i64 e, a, .own 2] 33, .gone, .own 5 1 l.length (bys l) true]
def putS : Spec := fun args H Q => match args, H with
  | [.ptr 0 0, .int .u64 n, .int .i64 k], [.cells [.int .i64 e, a, .own 1] 33, .own 5 1 m xs true] => ∃ (l : List UInt8) (v c : Nat), xs = bys l ∧ m = l.length ∧ (a = .nil ∨ a = .ptr 0 1) ∧ l.length < 100000000 ∧ n = v ∧ v < 18446744073709551616 ∧ k = c ∧ 0 < c ∧ c ≤ 8 ∧
    Q (.tuple []) (wrN e (.ptr 0 1) (l ++ beb v c))
  | _, _ => False
theorem byte_go (v k : Nat) (hk : k ≤ 7) : IntKind.u8.wrap (shrI .u64 (v : Int) (8 * (k : Int))) = ((UInt8.ofNat (v / 256 ^ k)).toNat : Int) := by
  unfold shrI
  have : min (8 * (k : Int)).toNat IntKind.u64.bits = 8 * k := by
    simp only [IntKind.bits]
    omega
  rw [this, Int.fdiv_eq_ediv_of_nonneg _ (by exact Int.pow_nonneg (by decide)), wrap_u8_mod, show ((2 : Int) ^ (8 * k)) = ((256 ^ k : Nat) : Int) by rw [show (256 : Nat) = 2 ^ 8 from rfl, ← Nat.pow_mul]; simp]
  simp
theorem put_c : Meets Try.prog [] 34 putS := by
  refine meets_of Γok Try.func34 rfl ?_
  intro args H Q h
  unfold putS at h
  split at h
  case h_2 => exact h.elim
  rename_i e a m xs
  obtain ⟨l, v, c, rfl, rfl, ha, hl, rfl, hv, rfl, hc, hc8, h⟩ := h
  (refine sx_sound Γok _ ?_; conv => whnf)
  rw [wrap_i64 (n := (c : Int) - 1) (by omega) (by omega)]
  refine loop_rule (fun j : Nat => ⟨[.ptr 0 0, .int .u64 (v : Int), .any, .any, .any, .any, .int .i64 ((c : Int) - 1 - j), .any, .any, .any, .any, .any, .any, .any, .any, .any, .any, .any, .any, .any, .any, .any], wrN e (if j = 0 then a else .ptr 0 1) (l ++ (beb v c).take j)⟩) (fun j => j ≤ c) (fun j => c - j) 0 (by omega) ?_ ?_
  · refine (Weak.fresh 1 0 2 rfl rfl rfl).trans (Weak.le ?_ ?_)
    · (repeat' ((conv => whnf); first | exact True.intro | (refine And.intro ?_ ?_)))
      all_goals first | rfl | (congr 1; omega)
    · (repeat' ((conv => whnf); first | exact True.intro | (refine And.intro ?_ ?_)))
      all_goals first | rfl | exact .eq rfl | (rw [List.take_zero, List.append_nil])
  · intro j hj
    have haj : (if j = 0 then a else .ptr 0 1) = SV.nil ∨ (if j = 0 then a else .ptr 0 1) = SV.ptr 0 1 := by
      split
      · exact ha
      · exact .inr rfl
    (refine sx_sound Γok _ ?_; conv => whnf)
    refine Both.dec (fun hlt => ?_) (fun hge => ?_)
    · (conv => whnf)
      refine DrawVC.tail Γok 8 (by kernel_rfl) (by kernel_rfl) ?_
      (conv => whnf)
      rw [show (c : Int) - 1 - j = ((c - 1 - j : Nat) : Int) by omega, wrap_i64 (n := 8 * ((c - 1 - j : Nat) : Int)) (by omega) (by omega)]
      (repeat (first | (refine Both.lit_true ?_; conv => whnf) | (refine Both.lit_false ?_; conv => whnf) | (refine Need.mk (by first | omega | exact ⟨by omega, by omega⟩ | rfl | exact ⟨rfl, rfl⟩ | exact ⟨rfl, Nat.le_of_ble_eq_true rfl⟩) ?_; conv => whnf)))
      rw [byte_go v (c - 1 - j) (by omega)]
      refine CallVC.of [0, 2] wb_k ⟨_, _, rfl, rfl, rfl, by (split <;> first | exact .inr rfl | (rcases ha with rfl | rfl; exact .inl rfl; exact .inr rfl)), by simp; omega, ?_⟩
      (conv => whnf)
      refine ⟨j + 1, by omega, by omega, Weak.to [0, 1, 3] rfl rfl rfl ?_ ?_⟩
      · (repeat' ((conv => whnf); first | exact True.intro | (refine And.intro ?_ ?_)))
        all_goals first | rfl | exact congrArg (SV.int .i64) (by rw [wrap_i64 (by omega) (by omega)]; omega)
      · (repeat' ((conv => whnf); first | exact True.intro | (refine And.intro ?_ ?_)))
        all_goals first | rfl | exact .eq rfl | (rw [if_neg (by omega)]; exact .eq rfl) | (refine Eq.trans (b := LObj.own 5 1 ((l ++ (beb v c).take j).length + 1) (bys ((l ++ (beb v c).take j) ++ [UInt8.ofNat (v / 256 ^ (c - 1 - j))])) true) rfl ?_; rw [List.append_assoc, beb_take v c j (by omega)]; congr 1; simp [beb_length]; omega)
    · obtain rfl : j = c := by omega
      (conv => whnf)
      refine ⟨_, _, WeakV.refl _ _ _ _, ?_⟩
      rw [if_neg (by omega), List.take_of_length_le (by rw [beb_length]; omega)]
      exact h
theorem put_k : Contract Try.prog [] 34 putS := ⟨⟨⟨_, rfl, rfl, rfl⟩⟩, put_c⟩
end Go.LX
