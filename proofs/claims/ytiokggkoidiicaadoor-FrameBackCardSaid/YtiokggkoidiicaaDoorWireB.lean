import Derived.Test.YtiokggkoidiicaaDoorWireX
set_option maxRecDepth 100000
set_option maxHeartbeats 4000000
set_option autoImplicit false
set_option linter.unusedVariables false
set_option linter.unusedSimpArgs false
namespace Go.LX
open Go.Proofs

def rbS : Spec := fun args H Q => match args, H with
  | [.int .u64 n, .int .i64 c], [] => ∃ v k : Nat, n = v ∧ v < 18446744073709551616 ∧ c = k ∧ k ≤ 8 ∧ Q (.str (beb v k)) []
  | _, _ => False
theorem rem_go (q : Nat) : IntKind.u8.wrap ((q : Int).tmod 256) = ((UInt8.ofNat q).toNat : Int) := by
  rw [Int.tmod_eq_emod_of_nonneg (by omega), wrap_u8_mod]
  simp
theorem quo_go (q : Nat) (hv : q < 18446744073709551616) : IntKind.u64.wrap ((q : Int).tdiv 256) = ((q / 256 : Nat) : Int) := by
  rw [Int.tdiv_eq_ediv_of_nonneg (by omega), wrap_u64 (by omega) (by omega)]
  omega
theorem cv_by (b : UInt8) : cvByte (.int .u8 (b.toNat : Int)) = b := by
  show UInt8.ofNat ((b.toNat : Int)).toNat = b
  rw [Int.toNat_natCast]
  simp
theorem rb_c : Meets Tryd.prog [] 70 rbS := by
  refine meets_of Γok Tryd.func70 rfl ?_
  intro args H Q h
  unfold rbS at h
  split at h
  case h_2 => exact h.elim
  obtain ⟨v, c, rfl, hv, rfl, hc, h⟩ := h
  (refine sx_sound Γok _ ?_; conv => whnf)
  refine loop_rule (fun j : Nat => ⟨[.int .u64 ((v / 256 ^ j : Nat) : Int), .int .i64 (c : Int), .any, .any, .any, .str (beb v j), .int .i64 (j : Int), .any, .any, .any, .any, .any, .any, .any, .any, .any, .any, .any, .any, .any, .any, .any], []⟩) (fun j => j ≤ c) (fun j => c - j) 0 (by omega) ?_ ?_
  · refine Weak.le ?_ ?_
    · (repeat' ((conv => whnf); first | exact True.intro | (refine And.intro ?_ ?_)))
      all_goals first | rfl | (rw [Nat.pow_zero, Nat.div_one])
    · (repeat' ((conv => whnf); first | exact True.intro | (refine And.intro ?_ ?_)))
  · intro j hj
    (refine sx_sound Γok _ ?_; conv => whnf)
    refine Both.dec (fun hlt => ?_) (fun hge => ?_)
    · (conv => whnf)
      (repeat (first | (refine Both.lit_true ?_; conv => whnf) | (refine Both.lit_false ?_; conv => whnf) | (refine Need.mk ?_ ?_; (focus (first | omega | exact ⟨by omega, by omega⟩ | rfl | exact ⟨rfl, rfl⟩ | exact ⟨rfl, Nat.le_of_ble_eq_true rfl⟩ | exact Nat.le_of_ble_eq_true rfl | (refine ⟨rfl, rfl, ?_⟩; simp [isFar, ofV0, CV.up, SV.renL, SV.ren] <;> fail) | (refine ⟨rfl, Nat.le_of_ble_eq_true rfl, ?_⟩; simp [isFar, ofV0, CV.up, SV.renL, SV.ren] <;> fail) | (simp <;> fail))); conv => whnf)))
      rw [rem_go]
      refine Need.mk ⟨rfl, by simp [isU8]⟩ ?_
      (conv => whnf)
      refine Need.mk (by rw [beb_length]; simp; omega) ?_
      (conv => whnf)
      (repeat (first | (refine Both.lit_true ?_; conv => whnf) | (refine Both.lit_false ?_; conv => whnf) | (refine Need.mk ?_ ?_; (focus (first | omega | exact ⟨by omega, by omega⟩ | rfl | exact ⟨rfl, rfl⟩ | exact ⟨rfl, Nat.le_of_ble_eq_true rfl⟩ | exact Nat.le_of_ble_eq_true rfl | (refine ⟨rfl, rfl, ?_⟩; simp [isFar, ofV0, CV.up, SV.renL, SV.ren] <;> fail) | (refine ⟨rfl, Nat.le_of_ble_eq_true rfl, ?_⟩; simp [isFar, ofV0, CV.up, SV.renL, SV.ren] <;> fail) | (simp <;> fail))); conv => whnf)))
      have hq : v / 256 ^ j < 18446744073709551616 := Nat.lt_of_le_of_lt (Nat.div_le_self _ _) hv
      refine ⟨j + 1, by omega, by omega, Weak.le ?_ ?_⟩
      · (repeat' ((conv => whnf); first | exact True.intro | (refine And.intro ?_ ?_)))
        all_goals first | rfl | exact congrArg (SV.int .u64) (by rw [quo_go _ hq, Nat.pow_succ, ← Nat.div_div_eq_div_mul]) | exact congrArg (SV.int .i64) (by rw [wrap_i64 (by omega) (by omega)]; rfl) | exact congrArg (fun x => SV.str (x :: beb v j)) (cv_by _)
      · (repeat' ((conv => whnf); first | exact True.intro | (refine And.intro ?_ ?_)))
    · obtain rfl : j = c := by omega
      (conv => whnf)
      exact ⟨_, _, WeakV.drop rfl, h⟩
theorem rb_k : Contract Tryd.prog [] 70 rbS := ⟨⟨⟨_, rfl, rfl, rfl⟩⟩, rb_c⟩
end Go.LX
