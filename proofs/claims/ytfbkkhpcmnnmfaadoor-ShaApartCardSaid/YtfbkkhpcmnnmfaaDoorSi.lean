import Derived.Test.YtfbkkhpcmnnmfaaDoorSh
set_option maxRecDepth 100000
set_option maxHeartbeats 1000000
set_option autoImplicit false
set_option linter.unusedVariables false
set_option linter.unusedSimpArgs false
namespace Go.LX
open Go.Proofs

/-! ## The digest of what was written -/
def beL (n k : Nat) : List UInt8 := (List.range k).map fun j => UInt8.ofNat (n / 256 ^ (7 - j))
theorem beL_len (n k : Nat) : (beL n k).length = k := by simp [beL]
theorem beL_one (n k : Nat) : beL n (k + 1) = beL n k ++ [UInt8.ofNat (n / 256 ^ (7 - k))] := by
  simp [beL, List.range_succ]
theorem byteS_go (v k : Nat) (hk : k ≤ 7) : IntKind.u8.wrap (shrI .u64 (v : Int) (8 * (k : Int))) = ((UInt8.ofNat (v / 256 ^ k)).toNat : Int) := by
  unfold shrI
  have : min (8 * (k : Int)).toNat IntKind.u64.bits = 8 * k := by
    simp only [IntKind.bits]
    omega
  rw [this, Int.fdiv_eq_ediv_of_nonneg _ (by exact Int.pow_nonneg (by decide)), wrap_u8_mod, show ((2 : Int) ^ (8 * k)) = ((256 ^ k : Nat) : Int) by rw [show (256 : Nat) = 2 ^ 8 from rfl, ← Nat.pow_mul]; simp]
  simp
def pad (n : Nat) : List UInt8 := [128] ++ List.replicate ((119 - n % 64) % 64) 0 ++ beL (n * 8) 8
def St.end_ (v : St) (r : List UInt8) (n : Nat) : List UInt8 := (v.put (r ++ pad n)).1.dig
def sumHS : Spec := fun args H Q => match args, H with
  | [.ptr 0 0], [.cells [.int .u32 x0, .int .u32 x1, .int .u32 x2, .int .u32 x3, .int .u32 x4, .int .u32 x5, .int .u32 x6, .int .u32 x7, .str r, .int .i64 n] 57] => ∃ (v : St) (m : Nat), (x0 = u32 v.a ∧ x1 = u32 v.b ∧ x2 = u32 v.c ∧ x3 = u32 v.d ∧ x4 = u32 v.e ∧ x5 = u32 v.f ∧ x6 = u32 v.g ∧ x7 = u32 v.h) ∧
      (r.length < 1000 ∧ n = (m : Int) ∧ m < 1000000000) ∧ Q (.str (v.end_ r m)) [hsh v r n]
  | _, _ => False
theorem sumH_c {y0 : CV} {cs0 : List CV} (hK : KAt y0 cs0) : Meets Tryd.prog [(0, y0 :: cs0)] 17 sumHS := by
  refine meets_of Γok Tryd.func17 rfl ?_
  intro args H Q h
  unfold sumHS at h
  split at h
  case h_2 => exact h.elim
  rename_i x0 x1 x2 x3 x4 x5 x6 x7 r n
  obtain ⟨v, m, ⟨rfl, rfl, rfl, rfl, rfl, rfl, rfl, rfl⟩, ⟨hr, rfl, hm⟩, h⟩ := h
  (refine sx_sound Γok _ ?_; conv => whnf)
  (repeat (first | (exact Out.same; conv => whnf) | (exact Out1.same; conv => whnf) | (refine QAnd.mk ?_ ?_; conv => whnf) | (apply QStepH.go; conv => whnf) | (refine Both.lit_true ?_; conv => whnf) | (refine Both.lit_false ?_; conv => whnf) | (apply QStep.go; conv => whnf) | (refine Need.mk ?_ ?_; (focus (first | omega | exact ⟨by omega, by omega⟩ | rfl | exact ⟨rfl, rfl⟩ | exact ⟨rfl, by omega, by omega⟩ | exact ⟨by omega, by omega, by omega⟩ | exact ⟨rfl, Nat.le_of_ble_eq_true rfl⟩ | exact Nat.le_of_ble_eq_true rfl | (refine ⟨rfl, rfl, ?_⟩; simp [isFar, ofV0, CV.up, SV.renL, SV.ren] <;> fail) | (refine ⟨rfl, Nat.le_of_ble_eq_true rfl, ?_⟩; simp [isFar, ofV0, CV.up, SV.renL, SV.ren] <;> fail) | (simp only [List.length_append, List.length_drop, List.length_take, List.length_replicate, List.length_map]; omega) | (simp <;> fail))); conv => whnf) | (refine ⟨_, rfl, ?_⟩; conv => whnf)))
  refine loop_rule (fun j : Nat => ⟨[.ptr 0 0, .any, .any, .ptr 1 0, .ptr 2 0, .int .i64 (56 - 8 * (j : Int)), .any, .any, .any, .any, .any, .any, .any, .any, .any, .any, .any, .any, .any, .any, .any, .any, .any, .any, .any, .any, .any, .any, .any, .any, .any, .any, .any, .any, .any, .any, .any], [hsh v r (m : Int), hsh v r (m : Int), .cells [.opt 2 0, .own 3] 48, .own 5 1 (beL (m * 8) j).length (bys (beL (m * 8) j)) true]⟩) (fun j => j ≤ 8) (fun j => 8 - j) 0 (by omega) ((Weak.bld 2 5 rfl).trans (Weak.auto ?_)) ?_
  · (repeat' ((conv => whnf); first | exact True.intro | (refine And.intro ?_ ?_)))
    all_goals first | rfl | exact .eq rfl
  intro j hj
  (refine sx_sound Γok _ ?_; conv => whnf)
  (repeat (first | (exact Out.same; conv => whnf) | (exact Out1.same; conv => whnf) | (refine QAnd.mk ?_ ?_; conv => whnf) | (apply QStepH.go; conv => whnf) | (refine Both.lit_true ?_; conv => whnf) | (refine Both.lit_false ?_; conv => whnf) | (apply QStep.go; conv => whnf) | (refine Need.mk ?_ ?_; (focus (first | omega | exact ⟨by omega, by omega⟩ | rfl | exact ⟨rfl, rfl⟩ | exact ⟨rfl, by omega, by omega⟩ | exact ⟨by omega, by omega, by omega⟩ | exact ⟨rfl, Nat.le_of_ble_eq_true rfl⟩ | exact Nat.le_of_ble_eq_true rfl | (refine ⟨rfl, rfl, ?_⟩; simp [isFar, ofV0, CV.up, SV.renL, SV.ren] <;> fail) | (refine ⟨rfl, Nat.le_of_ble_eq_true rfl, ?_⟩; simp [isFar, ofV0, CV.up, SV.renL, SV.ren] <;> fail) | (simp only [List.length_append, List.length_drop, List.length_take, List.length_replicate, List.length_map]; omega) | (simp <;> fail))); conv => whnf) | (refine ⟨_, rfl, ?_⟩; conv => whnf)))
  refine Both.dec (fun hlt => ?_) (fun hge => ?_)
  · have hj8 : j < 8 := by omega
    have hw : IntKind.u64.wrap (IntKind.u64.wrap (m : Int) * 8) = ((m * 8 : Nat) : Int) := by rw [wrap_u64 (n := (m : Int)) (by omega) (by omega), wrap_u64 (by omega) (by omega)]; rfl
    have hb : IntKind.u8.wrap (shrI .u64 (IntKind.u64.wrap (IntKind.u64.wrap (m : Int) * 8)) (56 - 8 * (j : Int))) = ((UInt8.ofNat (m * 8 / 256 ^ (7 - j))).toNat : Int) := by
      rw [hw, show 56 - 8 * (j : Int) = 8 * ((7 - j : Nat) : Int) by omega, byteS_go _ _ (by omega)]
    have hw6 : IntKind.i64.wrap (56 - 8 * (j : Int) - 8) = 56 - 8 * ((j + 1 : Nat) : Int) := by rw [wrap_i64 (by omega) (by omega)]; omega
    have hbl : (beL (m * 8) j).length < 1000000000 := by rw [beL_len]; omega
    have hobj : LObj.own 5 1 ((beL (m * 8) j).length + 1) (bys ((beL (m * 8) j) ++ [UInt8.ofNat (m * 8 / 256 ^ (7 - j))])) true = LObj.own 5 1 (beL (m * 8) (j + 1)).length (bys (beL (m * 8) (j + 1))) true := by
      rw [beL_one, List.length_append (bs := [_])]
      rfl
    (conv => whnf)
    (repeat (first | (exact Out.same; conv => whnf) | (exact Out1.same; conv => whnf) | (refine QAnd.mk ?_ ?_; conv => whnf) | (apply QStepH.go; conv => whnf) | (refine Both.lit_true ?_; conv => whnf) | (refine Both.lit_false ?_; conv => whnf) | (apply QStep.go; conv => whnf) | (refine Need.mk ?_ ?_; (focus (first | omega | exact ⟨by omega, by omega⟩ | rfl | exact ⟨rfl, rfl⟩ | exact ⟨rfl, by omega, by omega⟩ | exact ⟨by omega, by omega, by omega⟩ | exact ⟨rfl, Nat.le_of_ble_eq_true rfl⟩ | exact Nat.le_of_ble_eq_true rfl | (refine ⟨rfl, rfl, ?_⟩; simp [isFar, ofV0, CV.up, SV.renL, SV.ren] <;> fail) | (refine ⟨rfl, Nat.le_of_ble_eq_true rfl, ?_⟩; simp [isFar, ofV0, CV.up, SV.renL, SV.ren] <;> fail) | (simp only [List.length_append, List.length_drop, List.length_take, List.length_replicate, List.length_map]; omega) | (simp <;> fail))); conv => whnf) | (refine ⟨_, rfl, ?_⟩; conv => whnf)))
    refine CallVC.auto (wb_k.gl (G := [(0, y0 :: cs0)])) ⟨_, _, hb, rfl, rfl, hbl, ?_⟩
    (conv => whnf)
    (repeat (first | (exact Out.same; conv => whnf) | (exact Out1.same; conv => whnf) | (refine QAnd.mk ?_ ?_; conv => whnf) | (apply QStepH.go; conv => whnf) | (refine Both.lit_true ?_; conv => whnf) | (refine Both.lit_false ?_; conv => whnf) | (apply QStep.go; conv => whnf) | (refine Need.mk ?_ ?_; (focus (first | omega | exact ⟨by omega, by omega⟩ | rfl | exact ⟨rfl, rfl⟩ | exact ⟨rfl, by omega, by omega⟩ | exact ⟨by omega, by omega, by omega⟩ | exact ⟨rfl, Nat.le_of_ble_eq_true rfl⟩ | exact Nat.le_of_ble_eq_true rfl | (refine ⟨rfl, rfl, ?_⟩; simp [isFar, ofV0, CV.up, SV.renL, SV.ren] <;> fail) | (refine ⟨rfl, Nat.le_of_ble_eq_true rfl, ?_⟩; simp [isFar, ofV0, CV.up, SV.renL, SV.ren] <;> fail) | (simp only [List.length_append, List.length_drop, List.length_take, List.length_replicate, List.length_map]; omega) | (simp <;> fail))); conv => whnf) | (refine ⟨_, rfl, ?_⟩; conv => whnf)))
    refine ⟨j + 1, by omega, by omega, Weak.auto ?_⟩
    (repeat' ((conv => whnf); first | exact True.intro | (refine And.intro ?_ ?_)))
    all_goals first | exact hobj | rfl | exact .eq rfl | exact congrArg (SV.int .i64) hw6
  · have hj8 : j = 8 := by omega
    subst hj8
    obtain ⟨z, hz⟩ : ∃ z, (119 - m % 64) % 64 = z := ⟨_, rfl⟩
    have hr1 : (IntKind.i64.wrap (119 - (m : Int).tmod 64)).tmod 64 = ((z : Nat) : Int) := by
      have h1 : (m : Int).tmod 64 = ((m % 64 : Nat) : Int) := by rw [Int.tmod_eq_emod_of_nonneg (by omega)]; omega
      rw [h1, wrap_i64 (by omega) (by omega), Int.tmod_eq_emod_of_nonneg (by omega)]
      omega
    have hz64 : z < 64 := by omega
    have hbz : (beL (m * 8) 8).length = 8 := beL_len _ _
    have hnz : 0 ≤ (IntKind.i64.wrap (119 - (m : Int).tmod 64)).tmod 64 ∧ (IntKind.i64.wrap (119 - (m : Int).tmod 64)).tmod 64 ≤ 140737488355328 := by rw [hr1]; omega
    have hend : v.end_ r m = (v.put (r ++ (([128] ++ List.replicate ((z : Nat) : Int).toNat 0) ++ beL (m * 8) 8))).1.dig := by
      unfold St.end_ pad
      rw [hz]
      rfl
    rw [hend] at h
    revert hbz h
    generalize beL (m * 8) 8 = bs
    intro h hbz
    have hl1 : ([128] : List UInt8).length + (List.replicate ((z : Nat) : Int).toNat (0 : UInt8)).length ≤ 9223372036854775807 := by
      rw [List.length_replicate]
      show 1 + z ≤ _
      omega
    have hl2 : ([128] ++ List.replicate ((z : Nat) : Int).toNat (0 : UInt8)).length + bs.length ≤ 9223372036854775807 := by
      rw [List.length_append, List.length_replicate]
      show 1 + z + _ ≤ _
      omega
    have hl3 : bs.length < 1000000000000 := by omega
    have hl4 : (([128] ++ List.replicate ((z : Nat) : Int).toNat (0 : UInt8)) ++ bs).length < 1000000 := by
      rw [List.length_append, List.length_append, List.length_replicate]
      show 1 + z + _ < _
      omega
    (conv => whnf)
    (repeat (first | (exact Out.same; conv => whnf) | (exact Out1.same; conv => whnf) | (refine QAnd.mk ?_ ?_; conv => whnf) | (apply QStepH.go; conv => whnf) | (refine Both.lit_true ?_; conv => whnf) | (refine Both.lit_false ?_; conv => whnf) | (apply QStep.go; conv => whnf) | (refine Need.mk ?_ ?_; (focus (first | omega | exact ⟨by omega, by omega⟩ | rfl | exact ⟨rfl, rfl⟩ | exact ⟨rfl, by omega, by omega⟩ | exact ⟨by omega, by omega, by omega⟩ | exact ⟨rfl, Nat.le_of_ble_eq_true rfl⟩ | exact Nat.le_of_ble_eq_true rfl | (refine ⟨rfl, rfl, ?_⟩; simp [isFar, ofV0, CV.up, SV.renL, SV.ren] <;> fail) | (refine ⟨rfl, Nat.le_of_ble_eq_true rfl, ?_⟩; simp [isFar, ofV0, CV.up, SV.renL, SV.ren] <;> fail) | (simp only [List.length_append, List.length_drop, List.length_take, List.length_replicate, List.length_map]; omega) | (simp <;> fail))); conv => whnf) | (refine ⟨_, rfl, ?_⟩; conv => whnf)))
    refine CallVC.auto (zero_k.gl (G := [(0, y0 :: cs0)])) (Need.mk hnz ?_)
    rw [hr1]
    (conv => whnf)
    (repeat (first | (refine Need.mk hl1 ?_; conv => whnf) | (exact Out.same; conv => whnf) | (exact Out1.same; conv => whnf) | (refine QAnd.mk ?_ ?_; conv => whnf) | (apply QStepH.go; conv => whnf) | (refine Both.lit_true ?_; conv => whnf) | (refine Both.lit_false ?_; conv => whnf) | (apply QStep.go; conv => whnf) | (refine Need.mk ?_ ?_; (focus (first | omega | exact ⟨by omega, by omega⟩ | rfl | exact ⟨rfl, rfl⟩ | exact ⟨rfl, by omega, by omega⟩ | exact ⟨by omega, by omega, by omega⟩ | exact ⟨rfl, Nat.le_of_ble_eq_true rfl⟩ | exact Nat.le_of_ble_eq_true rfl | (refine ⟨rfl, rfl, ?_⟩; simp [isFar, ofV0, CV.up, SV.renL, SV.ren] <;> fail) | (refine ⟨rfl, Nat.le_of_ble_eq_true rfl, ?_⟩; simp [isFar, ofV0, CV.up, SV.renL, SV.ren] <;> fail) | (simp only [List.length_append, List.length_drop, List.length_take, List.length_replicate, List.length_map]; omega) | (simp <;> fail))); conv => whnf) | (refine ⟨_, rfl, ?_⟩; conv => whnf)))
    refine CallVC.auto (str_k.gl (G := [(0, y0 :: cs0)])) ⟨_, rfl, rfl, hl3, ?_⟩
    (conv => whnf)
    (repeat (first | (refine Need.mk hl2 ?_; conv => whnf) | (exact Out.same; conv => whnf) | (exact Out1.same; conv => whnf) | (refine QAnd.mk ?_ ?_; conv => whnf) | (apply QStepH.go; conv => whnf) | (refine Both.lit_true ?_; conv => whnf) | (refine Both.lit_false ?_; conv => whnf) | (apply QStep.go; conv => whnf) | (refine Need.mk ?_ ?_; (focus (first | omega | exact ⟨by omega, by omega⟩ | rfl | exact ⟨rfl, rfl⟩ | exact ⟨rfl, by omega, by omega⟩ | exact ⟨by omega, by omega, by omega⟩ | exact ⟨rfl, Nat.le_of_ble_eq_true rfl⟩ | exact Nat.le_of_ble_eq_true rfl | (refine ⟨rfl, rfl, ?_⟩; simp [isFar, ofV0, CV.up, SV.renL, SV.ren] <;> fail) | (refine ⟨rfl, Nat.le_of_ble_eq_true rfl, ?_⟩; simp [isFar, ofV0, CV.up, SV.renL, SV.ren] <;> fail) | (simp only [List.length_append, List.length_drop, List.length_take, List.length_replicate, List.length_map]; omega) | (simp <;> fail))); conv => whnf) | (refine ⟨_, rfl, ?_⟩; conv => whnf)))
    refine CallVC.auto (wr_k hK) ⟨v, ⟨rfl, rfl, rfl, rfl, rfl, rfl, rfl, rfl⟩, ⟨by omega, hl4, by omega, by omega⟩, ?_⟩
    (conv => whnf)
    (repeat (first | (exact Out.same; conv => whnf) | (exact Out1.same; conv => whnf) | (refine QAnd.mk ?_ ?_; conv => whnf) | (apply QStepH.go; conv => whnf) | (refine Both.lit_true ?_; conv => whnf) | (refine Both.lit_false ?_; conv => whnf) | (apply QStep.go; conv => whnf) | (refine Need.mk ?_ ?_; (focus (first | omega | exact ⟨by omega, by omega⟩ | rfl | exact ⟨rfl, rfl⟩ | exact ⟨rfl, by omega, by omega⟩ | exact ⟨by omega, by omega, by omega⟩ | exact ⟨rfl, Nat.le_of_ble_eq_true rfl⟩ | exact Nat.le_of_ble_eq_true rfl | (refine ⟨rfl, rfl, ?_⟩; simp [isFar, ofV0, CV.up, SV.renL, SV.ren] <;> fail) | (refine ⟨rfl, Nat.le_of_ble_eq_true rfl, ?_⟩; simp [isFar, ofV0, CV.up, SV.renL, SV.ren] <;> fail) | (simp only [List.length_append, List.length_drop, List.length_take, List.length_replicate, List.length_map]; omega) | (simp <;> fail))); conv => whnf) | (refine ⟨_, rfl, ?_⟩; conv => whnf)))
    refine CallVC.auto (dig_k.gl (G := [(0, y0 :: cs0)])) ⟨_, ⟨rfl, rfl, rfl, rfl, rfl, rfl, rfl, rfl⟩, ?_⟩
    (conv => whnf)
    (repeat (first | (exact Out.same; conv => whnf) | (exact Out1.same; conv => whnf) | (refine QAnd.mk ?_ ?_; conv => whnf) | (apply QStepH.go; conv => whnf) | (refine Both.lit_true ?_; conv => whnf) | (refine Both.lit_false ?_; conv => whnf) | (apply QStep.go; conv => whnf) | (refine Need.mk ?_ ?_; (focus (first | omega | exact ⟨by omega, by omega⟩ | rfl | exact ⟨rfl, rfl⟩ | exact ⟨rfl, by omega, by omega⟩ | exact ⟨by omega, by omega, by omega⟩ | exact ⟨rfl, Nat.le_of_ble_eq_true rfl⟩ | exact Nat.le_of_ble_eq_true rfl | (refine ⟨rfl, rfl, ?_⟩; simp [isFar, ofV0, CV.up, SV.renL, SV.ren] <;> fail) | (refine ⟨rfl, Nat.le_of_ble_eq_true rfl, ?_⟩; simp [isFar, ofV0, CV.up, SV.renL, SV.ren] <;> fail) | (simp only [List.length_append, List.length_drop, List.length_take, List.length_replicate, List.length_map]; omega) | (simp <;> fail))); conv => whnf) | (refine ⟨_, rfl, ?_⟩; conv => whnf)))
    refine ⟨_, _, WeakV.auto ?_, h⟩
    (repeat' ((conv => whnf); first | exact True.intro | (refine And.intro ?_ ?_)))
    all_goals first | rfl | exact .eq rfl
theorem sumH_k {y0 : CV} {cs0 : List CV} (hK : KAt y0 cs0) : Contract Tryd.prog [(0, y0 :: cs0)] 17 sumHS := ⟨⟨⟨_, rfl, rfl, rfl⟩⟩, sumH_c hK⟩
end Go.LX
