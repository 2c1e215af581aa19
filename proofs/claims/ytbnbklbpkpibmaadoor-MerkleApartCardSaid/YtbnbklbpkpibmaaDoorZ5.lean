/- Own texts of this claim, in build order: Ma, Mb, Mc, Mn, Md, Me, Mf, Mg, Mh. -/
import Derived.Test.YtbnbklbpkpibmaaDoorZ4
section
set_option maxRecDepth 100000
set_option maxHeartbeats 1000000
set_option autoImplicit false
set_option linter.unusedVariables false
set_option linter.unusedSimpArgs false
namespace Go.LX
open Go.Proofs

/-! ## The greatest power of two below a number -/
def len8 : List UInt8 := [0, 1, 2, 2, 3, 3, 3, 3, 4, 4, 4, 4, 4, 4, 4, 4, 5, 5, 5, 5, 5, 5, 5, 5, 5, 5, 5, 5, 5, 5, 5, 5, 6, 6, 6, 6, 6, 6, 6, 6, 6, 6, 6, 6, 6, 6, 6, 6, 6, 6, 6, 6, 6, 6, 6, 6, 6, 6, 6, 6, 6, 6, 6, 6, 7, 7, 7, 7, 7, 7, 7, 7, 7, 7, 7, 7, 7, 7, 7, 7, 7, 7, 7, 7, 7, 7, 7, 7, 7, 7, 7, 7, 7, 7, 7, 7, 7, 7, 7, 7, 7, 7, 7, 7, 7, 7, 7, 7, 7, 7, 7, 7, 7, 7, 7, 7, 7, 7, 7, 7, 7, 7, 7, 7, 7, 7, 7, 7, 8, 8, 8, 8, 8, 8, 8, 8, 8, 8, 8, 8, 8, 8, 8, 8, 8, 8, 8, 8, 8, 8, 8, 8, 8, 8, 8, 8, 8, 8, 8, 8, 8, 8, 8, 8, 8, 8, 8, 8, 8, 8, 8, 8, 8, 8, 8, 8, 8, 8, 8, 8, 8, 8, 8, 8, 8, 8, 8, 8, 8, 8, 8, 8, 8, 8, 8, 8, 8, 8, 8, 8, 8, 8, 8, 8, 8, 8, 8, 8, 8, 8, 8, 8, 8, 8, 8, 8, 8, 8, 8, 8, 8, 8, 8, 8, 8, 8, 8, 8, 8, 8, 8, 8, 8, 8, 8, 8, 8, 8, 8, 8, 8, 8, 8, 8, 8, 8, 8, 8, 8, 8, 8, 8, 8, 8, 8, 8]
def lenN (v : Nat) : Nat := if v = 0 then 0 else Nat.log2 v + 1
theorem len8_at : ∀ k : Fin 256, (len8.getD k.val 0).toNat = lenN k.val := by decide +kernel
theorem lenN_8 {v : Nat} (h : 256 ≤ v) : lenN v = 8 + lenN (v / 256) := by
  have h1 : v ≠ 0 := by omega
  have h2 : v / 256 ≠ 0 := by omega
  unfold lenN
  rw [if_neg h1, if_neg h2]
  have a := Nat.log2_self_le h2
  have b := Nat.lt_log2_self (n := v / 256)
  obtain ⟨j, hj⟩ : ∃ j, (v / 256).log2 = j := ⟨_, rfl⟩
  rw [hj] at a b ⊢
  have c := (Nat.le_log2 (k := j + 8) h1).2 (by rw [Nat.pow_add]; omega)
  have d := (Nat.log2_lt (k := j + 9) h1).2 (by
    have : 2 ^ (j + 9) = 2 ^ (j + 1) * 256 := by rw [show j + 9 = (j + 1) + 8 by omega, Nat.pow_add]
    omega)
  omega
def len64S : Spec := fun args H Q => match args, H with
  | [.int .u64 x], [] => ∃ v : Nat, x = v ∧ v < 65536 ∧ Q (.int .i64 ((lenN v : Nat) : Int)) []
  | _, _ => False
theorem len64_c : Meets Tryd.prog [] 58 len64S := by
  refine meets_of Γok Tryd.func58 rfl ?_
  intro args H Q h
  unfold len64S at h
  split at h
  case h_2 => exact h.elim
  obtain ⟨v, rfl, hv, h⟩ := h
  have hb1 : decide ((4294967296 : Int) ≤ (v : Int)) = false := by rw [decide_eq_false_iff_not]; omega
  have hb2 : decide ((65536 : Int) ≤ (v : Int)) = false := by rw [decide_eq_false_iff_not]; omega
  (refine sx_sound Γok _ ?_; conv => whnf)
  (repeat (first | (refine Both.of_false hb1 ?_; conv => whnf) | (refine Both.of_false hb2 ?_; conv => whnf) | (exact Out.same; conv => whnf) | (exact Out1.same; conv => whnf) | (refine QAnd.mk ?_ ?_; conv => whnf) | (apply QStepH.go; conv => whnf) | (refine Both.lit_true ?_; conv => whnf) | (refine Both.lit_false ?_; conv => whnf) | (apply QStep.go; conv => whnf) | (refine Need.mk ?_ ?_; (focus (first | omega | exact ⟨by omega, by omega⟩ | rfl | exact ⟨rfl, rfl⟩ | exact ⟨rfl, by omega, by omega⟩ | exact ⟨by omega, by omega, by omega⟩ | exact ⟨rfl, Nat.le_of_ble_eq_true rfl⟩ | exact Nat.le_of_ble_eq_true rfl | (refine ⟨rfl, rfl, ?_⟩; simp [isFar, ofV0, CV.up, SV.renL, SV.ren] <;> fail) | (refine ⟨rfl, Nat.le_of_ble_eq_true rfl, ?_⟩; simp [isFar, ofV0, CV.up, SV.renL, SV.ren] <;> fail) | (simp only [List.length_append, List.length_drop, List.length_take, List.length_replicate, List.length_map]; omega) | (simp <;> fail))); conv => whnf) | (refine ⟨_, rfl, ?_⟩; conv => whnf)))
  refine Both.dec (fun hbig => ?_) (fun hsm => ?_)
  · have hs : shrI .u64 (v : Int) 8 = ((v / 256 : Nat) : Int) := by
      unfold shrI
      rw [show min (8 : Int).toNat IntKind.u64.bits = 8 from rfl, Int.fdiv_eq_ediv_of_nonneg _ (by decide)]
      rfl
    have hi : IntKind.u8.wrap ((v / 256 : Nat) : Int) = ((v / 256 : Nat) : Int) := by rw [wrap_u8_mod]; omega
    have hin : 0 ≤ IntKind.u8.wrap (shrI .u64 (v : Int) 8) ∧ IntKind.u8.wrap (shrI .u64 (v : Int) 8) < ((256 : Nat) : Int) := by rw [hs, hi]; omega
    have hat := len8_at ⟨v / 256, by omega⟩
    have hl : lenN v = 8 + lenN (v / 256) := lenN_8 (by omega)
    have hsm : lenN (v / 256) ≤ 8 := by
      unfold lenN
      split
      · omega
      · have := (Nat.log2_lt (n := v / 256) (k := 8) (by omega)).2 (by omega)
        omega
    have hres : IntKind.i64.wrap (IntKind.i64.wrap (0 + 8) + IntKind.i64.wrap (((List.getD len8 (IntKind.u8.wrap (shrI .u64 (v : Int) 8)).toNat 0).toNat : Nat) : Int)) = ((lenN v : Nat) : Int) := by
      rw [hs, hi, Int.toNat_natCast, hat, hl, wrap_i64 (n := 0 + 8) (by omega) (by omega), wrap_i64 (n := ((lenN (v / 256) : Nat) : Int)) (by omega) (by omega), wrap_i64 (by omega) (by omega)]
      omega
    (conv => whnf)
    (repeat (first | (refine Need.mk hin ?_; conv => whnf) | (exact Out.same; conv => whnf) | (exact Out1.same; conv => whnf) | (refine QAnd.mk ?_ ?_; conv => whnf) | (apply QStepH.go; conv => whnf) | (refine Both.lit_true ?_; conv => whnf) | (refine Both.lit_false ?_; conv => whnf) | (apply QStep.go; conv => whnf) | (refine Need.mk ?_ ?_; (focus (first | omega | exact ⟨by omega, by omega⟩ | rfl | exact ⟨rfl, rfl⟩ | exact ⟨rfl, by omega, by omega⟩ | exact ⟨by omega, by omega, by omega⟩ | exact ⟨rfl, Nat.le_of_ble_eq_true rfl⟩ | exact Nat.le_of_ble_eq_true rfl | (refine ⟨rfl, rfl, ?_⟩; simp [isFar, ofV0, CV.up, SV.renL, SV.ren] <;> fail) | (refine ⟨rfl, Nat.le_of_ble_eq_true rfl, ?_⟩; simp [isFar, ofV0, CV.up, SV.renL, SV.ren] <;> fail) | (simp only [List.length_append, List.length_drop, List.length_take, List.length_replicate, List.length_map]; omega) | (simp <;> fail))); conv => whnf) | (refine ⟨_, rfl, ?_⟩; conv => whnf)))
    exact ⟨_, _, WeakV.drop (congrArg (SV.int .i64) hres), h⟩
  · have hi : IntKind.u8.wrap (v : Int) = (v : Int) := by rw [wrap_u8_mod]; omega
    have hin : 0 ≤ IntKind.u8.wrap (v : Int) ∧ IntKind.u8.wrap (v : Int) < ((256 : Nat) : Int) := by rw [hi]; omega
    have hat := len8_at ⟨v, by omega⟩
    have hsm : lenN v ≤ 8 := by
      unfold lenN
      split
      · omega
      · have := (Nat.log2_lt (n := v) (k := 8) (by omega)).2 (by omega)
        omega
    have hres : IntKind.i64.wrap (0 + IntKind.i64.wrap (((List.getD len8 (IntKind.u8.wrap (v : Int)).toNat 0).toNat : Nat) : Int)) = ((lenN v : Nat) : Int) := by
      rw [hi, Int.toNat_natCast, hat, wrap_i64 (n := ((lenN v : Nat) : Int)) (by omega) (by omega), wrap_i64 (by omega) (by omega)]
      omega
    (conv => whnf)
    (repeat (first | (refine Need.mk hin ?_; conv => whnf) | (exact Out.same; conv => whnf) | (exact Out1.same; conv => whnf) | (refine QAnd.mk ?_ ?_; conv => whnf) | (apply QStepH.go; conv => whnf) | (refine Both.lit_true ?_; conv => whnf) | (refine Both.lit_false ?_; conv => whnf) | (apply QStep.go; conv => whnf) | (refine Need.mk ?_ ?_; (focus (first | omega | exact ⟨by omega, by omega⟩ | rfl | exact ⟨rfl, rfl⟩ | exact ⟨rfl, by omega, by omega⟩ | exact ⟨by omega, by omega, by omega⟩ | exact ⟨rfl, Nat.le_of_ble_eq_true rfl⟩ | exact Nat.le_of_ble_eq_true rfl | (refine ⟨rfl, rfl, ?_⟩; simp [isFar, ofV0, CV.up, SV.renL, SV.ren] <;> fail) | (refine ⟨rfl, Nat.le_of_ble_eq_true rfl, ?_⟩; simp [isFar, ofV0, CV.up, SV.renL, SV.ren] <;> fail) | (simp only [List.length_append, List.length_drop, List.length_take, List.length_replicate, List.length_map]; omega) | (simp <;> fail))); conv => whnf) | (refine ⟨_, rfl, ?_⟩; conv => whnf)))
    exact ⟨_, _, WeakV.drop (congrArg (SV.int .i64) hres), h⟩
theorem len64_k : Contract Tryd.prog [] 58 len64S := ⟨⟨⟨_, rfl, rfl, rfl⟩⟩, len64_c⟩
theorem lenB_c : Meets Tryd.prog [] 46 len64S := by
  refine meets_of Γok Tryd.func46 rfl ?_
  intro args H Q h
  unfold len64S at h
  split at h
  case h_2 => exact h.elim
  obtain ⟨v, rfl, hv, h⟩ := h
  (refine sx_sound Γok _ ?_; conv => whnf)
  (repeat (first | (exact Out.same; conv => whnf) | (exact Out1.same; conv => whnf) | (refine QAnd.mk ?_ ?_; conv => whnf) | (apply QStepH.go; conv => whnf) | (refine Both.lit_true ?_; conv => whnf) | (refine Both.lit_false ?_; conv => whnf) | (apply QStep.go; conv => whnf) | (refine Need.mk ?_ ?_; (focus (first | omega | exact ⟨by omega, by omega⟩ | rfl | exact ⟨rfl, rfl⟩ | exact ⟨rfl, by omega, by omega⟩ | exact ⟨by omega, by omega, by omega⟩ | exact ⟨rfl, Nat.le_of_ble_eq_true rfl⟩ | exact Nat.le_of_ble_eq_true rfl | (refine ⟨rfl, rfl, ?_⟩; simp [isFar, ofV0, CV.up, SV.renL, SV.ren] <;> fail) | (refine ⟨rfl, Nat.le_of_ble_eq_true rfl, ?_⟩; simp [isFar, ofV0, CV.up, SV.renL, SV.ren] <;> fail) | (simp only [List.length_append, List.length_drop, List.length_take, List.length_replicate, List.length_map]; omega) | (simp <;> fail))); conv => whnf) | (refine ⟨_, rfl, ?_⟩; conv => whnf)))
  refine CallVC.auto len64_k ⟨v, rfl, hv, ?_⟩
  (conv => whnf)
  (repeat (first | (exact Out.same; conv => whnf) | (exact Out1.same; conv => whnf) | (refine QAnd.mk ?_ ?_; conv => whnf) | (apply QStepH.go; conv => whnf) | (refine Both.lit_true ?_; conv => whnf) | (refine Both.lit_false ?_; conv => whnf) | (apply QStep.go; conv => whnf) | (refine Need.mk ?_ ?_; (focus (first | omega | exact ⟨by omega, by omega⟩ | rfl | exact ⟨rfl, rfl⟩ | exact ⟨rfl, by omega, by omega⟩ | exact ⟨by omega, by omega, by omega⟩ | exact ⟨rfl, Nat.le_of_ble_eq_true rfl⟩ | exact Nat.le_of_ble_eq_true rfl | (refine ⟨rfl, rfl, ?_⟩; simp [isFar, ofV0, CV.up, SV.renL, SV.ren] <;> fail) | (refine ⟨rfl, Nat.le_of_ble_eq_true rfl, ?_⟩; simp [isFar, ofV0, CV.up, SV.renL, SV.ren] <;> fail) | (simp only [List.length_append, List.length_drop, List.length_take, List.length_replicate, List.length_map]; omega) | (simp <;> fail))); conv => whnf) | (refine ⟨_, rfl, ?_⟩; conv => whnf)))
  exact ⟨_, _, WeakV.drop rfl, h⟩
theorem lenB_k : Contract Tryd.prog [] 46 len64S := ⟨⟨⟨_, rfl, rfl, rfl⟩⟩, lenB_c⟩
def lftS : Spec := fun args H Q => match args, H with
  | [.int .i64 x], [] => ∃ n : Nat, x = n ∧ 1 < n ∧ n < 65536 ∧ Q (.int .i64 ((lft n : Nat) : Int)) []
  | _, _ => False
theorem lft_c : Meets Tryd.prog [] 34 lftS := by
  refine meets_of Γok Tryd.func34 rfl ?_
  intro args H Q h
  unfold lftS at h
  split at h
  case h_2 => exact h.elim
  obtain ⟨n, rfl, h1, h2, h⟩ := h
  have hw : IntKind.u64.wrap (IntKind.i64.wrap ((n : Int) - 1)) = ((n - 1 : Nat) : Int) := by rw [wrap_i64 (by omega) (by omega), wrap_u64 (by omega) (by omega)]; omega
  obtain ⟨j, hj⟩ : ∃ j, Nat.log2 (n - 1) = j := ⟨_, rfl⟩
  have hj16 : j < 16 := by rw [← hj]; exact (Nat.log2_lt (by omega)).2 (by omega)
  have hl : ((lenN (n - 1) : Nat) : Int) = ((j + 1 : Nat) : Int) := by unfold lenN; rw [if_neg (by omega), hj]
  have hs : IntKind.i64.wrap (((j + 1 : Nat) : Int) - 1) = (j : Int) := by rw [wrap_i64 (by omega) (by omega)]; omega
  have hlf : lft n = 2 ^ j := by unfold lft; rw [hj]
  have hp : (2 : Nat) ^ j ≤ 2 ^ 15 := Nat.pow_le_pow_right (by decide) (by omega)
  have hv : shlI .i64 1 (IntKind.i64.wrap (((j + 1 : Nat) : Int) - 1)) = ((lft n : Nat) : Int) := by
    rw [hs, hlf]
    unfold shlI
    rw [show min ((j : Int)).toNat IntKind.i64.bits = j by simp only [IntKind.bits]; omega, Int.one_mul]
    have : (2 : Int) ^ j = ((2 ^ j : Nat) : Int) := by norm_cast
    rw [this, wrap_i64 (by omega) (by omega)]
  have hn0 : 0 ≤ IntKind.i64.wrap (((j + 1 : Nat) : Int) - 1) := by rw [hs]; omega
  (refine sx_sound Γok _ ?_; conv => whnf)
  (repeat (first | (exact Out.same; conv => whnf) | (exact Out1.same; conv => whnf) | (refine QAnd.mk ?_ ?_; conv => whnf) | (apply QStepH.go; conv => whnf) | (refine Both.lit_true ?_; conv => whnf) | (refine Both.lit_false ?_; conv => whnf) | (apply QStep.go; conv => whnf) | (refine Need.mk ?_ ?_; (focus (first | omega | exact ⟨by omega, by omega⟩ | rfl | exact ⟨rfl, rfl⟩ | exact ⟨rfl, by omega, by omega⟩ | exact ⟨by omega, by omega, by omega⟩ | exact ⟨rfl, Nat.le_of_ble_eq_true rfl⟩ | exact Nat.le_of_ble_eq_true rfl | (refine ⟨rfl, rfl, ?_⟩; simp [isFar, ofV0, CV.up, SV.renL, SV.ren] <;> fail) | (refine ⟨rfl, Nat.le_of_ble_eq_true rfl, ?_⟩; simp [isFar, ofV0, CV.up, SV.renL, SV.ren] <;> fail) | (simp only [List.length_append, List.length_drop, List.length_take, List.length_replicate, List.length_map]; omega) | (simp <;> fail))); conv => whnf) | (refine ⟨_, rfl, ?_⟩; conv => whnf)))
  refine CallVC.auto lenB_k ⟨n - 1, hw, by omega, ?_⟩
  rw [hl]
  (conv => whnf)
  (repeat (first | (refine Need.mk hn0 ?_; conv => whnf) | (exact Out.same; conv => whnf) | (exact Out1.same; conv => whnf) | (refine QAnd.mk ?_ ?_; conv => whnf) | (apply QStepH.go; conv => whnf) | (refine Both.lit_true ?_; conv => whnf) | (refine Both.lit_false ?_; conv => whnf) | (apply QStep.go; conv => whnf) | (refine Need.mk ?_ ?_; (focus (first | omega | exact ⟨by omega, by omega⟩ | rfl | exact ⟨rfl, rfl⟩ | exact ⟨rfl, by omega, by omega⟩ | exact ⟨by omega, by omega, by omega⟩ | exact ⟨rfl, Nat.le_of_ble_eq_true rfl⟩ | exact Nat.le_of_ble_eq_true rfl | (refine ⟨rfl, rfl, ?_⟩; simp [isFar, ofV0, CV.up, SV.renL, SV.ren] <;> fail) | (refine ⟨rfl, Nat.le_of_ble_eq_true rfl, ?_⟩; simp [isFar, ofV0, CV.up, SV.renL, SV.ren] <;> fail) | (simp only [List.length_append, List.length_drop, List.length_take, List.length_replicate, List.length_map]; omega) | (simp <;> fail))); conv => whnf) | (refine ⟨_, rfl, ?_⟩; conv => whnf)))
  exact ⟨_, _, WeakV.drop (congrArg (SV.int .i64) hv), h⟩
theorem lft_k : Contract Tryd.prog [] 34 lftS := ⟨⟨⟨_, rfl, rfl, rfl⟩⟩, lft_c⟩
/-! ## The program's digests -/
def oneS : Spec := fun args H Q => match args, H with
  | [.int .i64 x], [] => ∃ n : Nat, x = n ∧ Q (.str [UInt8.ofNat n]) []
  | _, _ => False
theorem one_c : Meets Tryd.prog [] 30 oneS := by
  refine meets_of Γok Tryd.func30 rfl ?_
  intro args H Q h
  unfold oneS at h
  split at h
  case h_2 => exact h.elim
  obtain ⟨n, rfl, h⟩ := h
  have hb : IntKind.u8.wrap (n : Int) = ((UInt8.ofNat n).toNat : Int) := by rw [wrap_u8_mod]; simp
  have hc : List.map cvByte [CV.int .u8 (IntKind.u8.wrap (n : Int))] = [UInt8.ofNat n] := by
    rw [hb]
    show [cvByte (.int .u8 ((UInt8.ofNat n).toNat : Int))] = _
    rw [cv_by]
  have hu : [CV.int .u8 (IntKind.u8.wrap (n : Int))].length = 1 ∧ ∀ x, x ∈ [CV.int .u8 (IntKind.u8.wrap (n : Int))] → isU8 x = true := ⟨rfl, fun x hx => by rw [List.mem_singleton.1 hx]; rfl⟩
  (refine sx_sound Γok _ ?_; conv => whnf)
  (repeat (first | (refine Need.mk hu ?_; conv => whnf) | (exact Out.same; conv => whnf) | (exact Out1.same; conv => whnf) | (refine QAnd.mk ?_ ?_; conv => whnf) | (apply QStepH.go; conv => whnf) | (refine Both.lit_true ?_; conv => whnf) | (refine Both.lit_false ?_; conv => whnf) | (apply QStep.go; conv => whnf) | (refine Need.mk ?_ ?_; (focus (first | omega | exact ⟨by omega, by omega⟩ | rfl | exact ⟨rfl, rfl⟩ | exact ⟨rfl, by omega, by omega⟩ | exact ⟨by omega, by omega, by omega⟩ | exact ⟨rfl, Nat.le_of_ble_eq_true rfl⟩ | exact Nat.le_of_ble_eq_true rfl | (refine ⟨rfl, rfl, ?_⟩; simp [isFar, ofV0, CV.up, SV.renL, SV.ren] <;> fail) | (refine ⟨rfl, Nat.le_of_ble_eq_true rfl, ?_⟩; simp [isFar, ofV0, CV.up, SV.renL, SV.ren] <;> fail) | (simp only [List.length_append, List.length_drop, List.length_take, List.length_replicate, List.length_map]; omega) | (simp <;> fail))); conv => whnf) | (refine ⟨_, rfl, ?_⟩; conv => whnf)))
  exact ⟨_, _, WeakV.drop (congrArg SV.str hc), h⟩
theorem one_k : Contract Tryd.prog [] 30 oneS := ⟨⟨⟨_, rfl, rfl, rfl⟩⟩, one_c⟩
end Go.LX
end
section
set_option maxRecDepth 100000
set_option maxHeartbeats 2000000
set_option autoImplicit false
set_option linter.unusedVariables false
set_option linter.unusedSimpArgs false
namespace Go.LX
open Go.Proofs

def enP (p : Pr) : List CV := [.str p.1, .str p.2]
def flP (l : List Pr) : List CV := l.flatMap enP
theorem flP_len (l : List Pr) : (flP l).length = 2 * l.length := by
  induction l with
  | nil => rfl
  | cons a l ih =>
    show (enP a ++ flP l).length = _
    rw [List.length_append, ih, List.length_cons]
    simp [enP]
    omega
theorem flP_app (l m : List Pr) : flP (l ++ m) = flP l ++ flP m := by rw [flP, List.flatMap_append]; rfl
theorem flP_take (l : List Pr) {k : Nat} (h : k ≤ l.length) : (flP l).take (2 * k) = flP (l.take k) := by
  have e : flP l = flP (l.take k) ++ flP (l.drop k) := by rw [← flP_app, List.take_append_drop]
  rw [e, List.take_append_of_le_length (by rw [flP_len, List.length_take]; omega), List.take_of_length_le (by rw [flP_len, List.length_take]; omega)]
theorem flP_drop (l : List Pr) {k : Nat} (h : k ≤ l.length) : (flP l).drop (2 * k) = flP (l.drop k) := by
  have e : flP l = flP (l.take k) ++ flP (l.drop k) := by rw [← flP_app, List.take_append_drop]
  have hl : (flP (l.take k)).length = 2 * k := by rw [flP_len, List.length_take]; omega
  rw [e, ← hl, List.drop_left]
theorem cut_lo (l : List Pr) {k : Nat} (h : k ≤ l.length) : ((flP l).take (((k : Nat) : Int).toNat * 2)).drop ((0 : Int).toNat * 2) = flP (l.take k) := by
  rw [Int.toNat_natCast, Nat.mul_comm k, flP_take l h]
  rfl
theorem cut_hi (l : List Pr) {k : Nat} (h : k ≤ l.length) : ((flP l).take (((l.length : Nat) : Int).toNat * 2)).drop (((k : Nat) : Int).toNat * 2) = flP (l.drop k) := by
  rw [Int.toNat_natCast, Int.toNat_natCast, Nat.mul_comm l.length, Nat.mul_comm k, List.take_of_length_le (by rw [flP_len]; exact Nat.le_refl _), flP_drop l h]
theorem flP_at (l : List Pr) {k : Nat} (h : k < l.length) : ((flP l).drop (((k : Nat) : Int).toNat * 2)).take 2 = [.str (l.getD k ([], [])).1, .str (l.getD k ([], [])).2] := by
  rw [Int.toNat_natCast, Nat.mul_comm, flP_drop l (by omega)]
  rw [List.drop_eq_getElem_cons h, List.getD_eq_getElem?_getD, List.getElem?_eq_getElem h]
  rfl
def okP (p : Pr) : Prop := p.1.length < 50000 ∧ p.2.length < 50000
/-! ## The program's digests of pairs -/
def leafS : Spec := fun args H Q => match args, H with
  | [.agg [.str k, .str v]], [] => Need (k.length < 50000 ∧ v.length < 50000) (Q (.str (shaD (txLeaf (k, v)))) [])
  | _, _ => False
theorem leaf_c {y0 : CV} {cs0 : List CV} (hK : KAt y0 cs0) : Meets Tryd.prog [(0, y0 :: cs0)] 19 leafS := by
  refine meets_of Γok Tryd.func19 rfl ?_
  intro args H Q h
  unfold leafS at h
  split at h
  case h_2 => exact h.elim
  rename_i k v
  obtain ⟨⟨hk, hv⟩, h⟩ := h
  have hx : txLeaf (k, v) = ([[0], [UInt8.ofNat k.length], k, [UInt8.ofNat v.length], v] : List Bs).flatten := by simp [txLeaf]
  have hl : ([[0], [UInt8.ofNat k.length], k, [UInt8.ofNat v.length], v] : List Bs).flatten.length < 500000 := by simp; omega
  rw [hx] at h
  clear hx
  (refine sx_sound Γok _ ?_; conv => whnf)
  (refine DrawVC.any Γok (by kernel_rfl) (by kernel_rfl) (by kernel_rfl) (by rfl) ?_; conv => whnf)
  (repeat (first | (refine CallVC.auto (one_k.gl (G := [(0, y0 :: cs0)])) ⟨_, rfl, ?_⟩; conv => whnf) | (refine CallVC.auto (shaSum_k hK) ⟨[[0], [UInt8.ofNat k.length], k, [UInt8.ofNat v.length], v], rfl, rfl, (by decide : 5 < 1000000000), hl, ?_⟩; conv => whnf) | (exact Out.same; conv => whnf) | (exact Out1.same; conv => whnf) | (refine QAnd.mk ?_ ?_; conv => whnf) | (apply QStepH.go; conv => whnf) | (refine Both.lit_true ?_; conv => whnf) | (refine Both.lit_false ?_; conv => whnf) | (apply QStep.go; conv => whnf) | (refine Need.mk ?_ ?_; (focus (first | omega | exact ⟨by omega, by omega⟩ | rfl | exact ⟨rfl, rfl⟩ | exact ⟨rfl, by omega, by omega⟩ | exact ⟨by omega, by omega, by omega⟩ | exact ⟨rfl, Nat.le_of_ble_eq_true rfl⟩ | exact Nat.le_of_ble_eq_true rfl | (refine ⟨rfl, rfl, ?_⟩; simp [isFar, ofV0, CV.up, SV.renL, SV.ren] <;> fail) | (refine ⟨rfl, Nat.le_of_ble_eq_true rfl, ?_⟩; simp [isFar, ofV0, CV.up, SV.renL, SV.ren] <;> fail) | (simp only [List.length_append, List.length_drop, List.length_take, List.length_replicate, List.length_map]; omega) | (simp <;> fail))); conv => whnf) | (refine ⟨_, rfl, ?_⟩; conv => whnf)))
  refine ⟨_, _, WeakV.auto ?_, h⟩
  (repeat' ((conv => whnf); first | exact True.intro | (refine And.intro ?_ ?_)))
  all_goals first | rfl | exact .eq rfl
theorem leaf_k {y0 : CV} {cs0 : List CV} (hK : KAt y0 cs0) : Contract Tryd.prog [(0, y0 :: cs0)] 19 leafS := ⟨⟨⟨_, rfl, rfl, rfl⟩⟩, leaf_c hK⟩
def bothS : Spec := fun args H Q => match args, H with
  | [.str a, .str b], [] => Need (a.length < 50000 ∧ b.length < 50000) (Q (.str (shaD ([1] ++ a ++ b))) [])
  | _, _ => False
theorem both_c {y0 : CV} {cs0 : List CV} (hK : KAt y0 cs0) : Meets Tryd.prog [(0, y0 :: cs0)] 37 bothS := by
  refine meets_of Γok Tryd.func37 rfl ?_
  intro args H Q h
  unfold bothS at h
  split at h
  case h_2 => exact h.elim
  rename_i a b
  obtain ⟨⟨ha, hb⟩, h⟩ := h
  have hx : [1] ++ a ++ b = ([[1], a, b] : List Bs).flatten := by simp
  have hl : ([[1], a, b] : List Bs).flatten.length < 500000 := by simp; omega
  rw [hx] at h
  clear hx
  (refine sx_sound Γok _ ?_; conv => whnf)
  (repeat (first | (refine CallVC.auto (shaSum_k hK) ⟨[[1], a, b], rfl, rfl, (by decide : 3 < 1000000000), hl, ?_⟩; conv => whnf) | (exact Out.same; conv => whnf) | (exact Out1.same; conv => whnf) | (refine QAnd.mk ?_ ?_; conv => whnf) | (apply QStepH.go; conv => whnf) | (refine Both.lit_true ?_; conv => whnf) | (refine Both.lit_false ?_; conv => whnf) | (apply QStep.go; conv => whnf) | (refine Need.mk ?_ ?_; (focus (first | omega | exact ⟨by omega, by omega⟩ | rfl | exact ⟨rfl, rfl⟩ | exact ⟨rfl, by omega, by omega⟩ | exact ⟨by omega, by omega, by omega⟩ | exact ⟨rfl, Nat.le_of_ble_eq_true rfl⟩ | exact Nat.le_of_ble_eq_true rfl | (refine ⟨rfl, rfl, ?_⟩; simp [isFar, ofV0, CV.up, SV.renL, SV.ren] <;> fail) | (refine ⟨rfl, Nat.le_of_ble_eq_true rfl, ?_⟩; simp [isFar, ofV0, CV.up, SV.renL, SV.ren] <;> fail) | (simp only [List.length_append, List.length_drop, List.length_take, List.length_replicate, List.length_map]; omega) | (simp <;> fail))); conv => whnf) | (refine ⟨_, rfl, ?_⟩; conv => whnf)))
  exact ⟨_, _, WeakV.drop rfl, h⟩
theorem both_k {y0 : CV} {cs0 : List CV} (hK : KAt y0 cs0) : Contract Tryd.prog [(0, y0 :: cs0)] 37 bothS := ⟨⟨⟨_, rfl, rfl, rfl⟩⟩, both_c hK⟩
theorem beb8_take (n : Nat) {k : Nat} (h : k < 8) : (beb n 8).take (k + 1) = (beb n 8).take k ++ [UInt8.ofNat (n / 256 ^ (7 - k))] := by
  have hl : k < (beb n 8).length := by rw [beb_length]; exact h
  rw [List.take_succ_eq_append_getElem hl]
  congr 2
  have := beb_get n 8 k h
  rw [List.getElem?_eq_getElem hl] at this
  exact (Option.some.inj this)
theorem ofNat_mod (n : Nat) : UInt8.ofNat (n % 256) = UInt8.ofNat n := by
  apply UInt8.toNat_inj.1
  rw [UInt8.toNat_ofNat', UInt8.toNat_ofNat']
  omega
def topS : Spec := fun args H Q => match args, H with
  | [.int .i64 c, .str d], [] => Need (-9223372036854775808 ≤ c ∧ c ≤ 9223372036854775807 ∧ d.length < 50000) (Q (.str (shaD (topX c.toNat d))) [])
  | _, _ => False
theorem top_c {y0 : CV} {cs0 : List CV} (hK : KAt y0 cs0) : Meets Tryd.prog [(0, y0 :: cs0)] 17 topS := by
  refine meets_of Γok Tryd.func17 rfl ?_
  intro args H Q h
  unfold topS at h
  split at h
  case h_2 => exact h.elim
  rename_i c d
  obtain ⟨⟨hc0, hc1, hd⟩, h⟩ := h
  have hmx : IntKind.u64.wrap (max 0 c) = ((c.toNat : Nat) : Int) := by rw [wrap_u64 (by omega) (by omega)]; omega
  have hmy : max 0 c = ((c.toNat : Nat) : Int) := by omega
  have hn : c.toNat < 18446744073709551616 := by omega
  revert h hmx hmy hn
  generalize c.toNat = n
  intro h hmx hmy hn
  have hx : topX n d = ([[2], beb n 8, d] : List Bs).flatten := by simp [topX]
  have hl : ([[2], beb n 8, d] : List Bs).flatten.length < 500000 := by simp [beb_length]; omega
  rw [hx] at h
  clear hx
  have hb8 := beb_length n 8
  (refine sx_sound Γok _ ?_; conv => whnf)
  (repeat (first | (exact Out.same; conv => whnf) | (exact Out1.same; conv => whnf) | (refine QAnd.mk ?_ ?_; conv => whnf) | (apply QStepH.go; conv => whnf) | (refine Both.lit_true ?_; conv => whnf) | (refine Both.lit_false ?_; conv => whnf) | (apply QStep.go; conv => whnf) | (refine Need.mk ?_ ?_; (focus (first | omega | exact ⟨by omega, by omega⟩ | rfl | exact ⟨rfl, rfl⟩ | exact ⟨rfl, by omega, by omega⟩ | exact ⟨by omega, by omega, by omega⟩ | exact ⟨rfl, Nat.le_of_ble_eq_true rfl⟩ | exact Nat.le_of_ble_eq_true rfl | (refine ⟨rfl, rfl, ?_⟩; simp [isFar, ofV0, CV.up, SV.renL, SV.ren] <;> fail) | (refine ⟨rfl, Nat.le_of_ble_eq_true rfl, ?_⟩; simp [isFar, ofV0, CV.up, SV.renL, SV.ren] <;> fail) | (simp only [List.length_append, List.length_drop, List.length_take, List.length_replicate, List.length_map]; omega) | (simp <;> fail))); conv => whnf) | (refine ⟨_, rfl, ?_⟩; conv => whnf)))
  rw [hmx]
  refine loop_rule (fun k : Nat => ⟨[.any, .str d, .any, .any, .any, .int .u64 (n : Int), .str ((beb n 8).take k), .any, .any, .any, .any, .int .i64 (k : Int), .any, .any, .any, .any, .any, .any, .any, .any, .any, .any, .any, .any, .any, .any, .any, .any, .any], []⟩) (fun k => k ≤ 8) (fun k => 8 - k) 0 (Nat.zero_le _) (Weak.auto ?_) ?_
  · (repeat' ((conv => whnf); first | exact True.intro | (refine And.intro ?_ ?_)))
    all_goals first | rfl | exact .eq rfl
  intro k hk
  (refine sx_sound Γok _ ?_; conv => whnf)
  (repeat (first | (exact Out.same; conv => whnf) | (exact Out1.same; conv => whnf) | (refine QAnd.mk ?_ ?_; conv => whnf) | (apply QStepH.go; conv => whnf) | (refine Both.lit_true ?_; conv => whnf) | (refine Both.lit_false ?_; conv => whnf) | (apply QStep.go; conv => whnf) | (refine Need.mk ?_ ?_; (focus (first | omega | exact ⟨by omega, by omega⟩ | rfl | exact ⟨rfl, rfl⟩ | exact ⟨rfl, by omega, by omega⟩ | exact ⟨by omega, by omega, by omega⟩ | exact ⟨rfl, Nat.le_of_ble_eq_true rfl⟩ | exact Nat.le_of_ble_eq_true rfl | (refine ⟨rfl, rfl, ?_⟩; simp [isFar, ofV0, CV.up, SV.renL, SV.ren] <;> fail) | (refine ⟨rfl, Nat.le_of_ble_eq_true rfl, ?_⟩; simp [isFar, ofV0, CV.up, SV.renL, SV.ren] <;> fail) | (simp only [List.length_append, List.length_drop, List.length_take, List.length_replicate, List.length_map]; omega) | (simp <;> fail))); conv => whnf) | (refine ⟨_, rfl, ?_⟩; conv => whnf)))
  refine Both.dec (fun hlt => ?_) (fun hge => ?_)
  · have hk8 : k < 8 := by omega
    have hw1 : IntKind.i64.wrap (56 - IntKind.i64.wrap (8 * (k : Int))) = 8 * ((7 - k : Nat) : Int) := by rw [wrap_i64 (n := 8 * (k : Int)) (by omega) (by omega), wrap_i64 (by omega) (by omega)]; omega
    have hn0 : 0 ≤ IntKind.i64.wrap (56 - IntKind.i64.wrap (8 * (k : Int))) := by rw [hw1]; omega
    obtain ⟨q, hq⟩ : ∃ q, n / 256 ^ (7 - k) = q := ⟨_, rfl⟩
    have hq64 : q < 18446744073709551616 := by rw [← hq]; exact Nat.lt_of_le_of_lt (Nat.div_le_self _ _) hn
    have hsh : shrI .u64 (n : Int) (IntKind.i64.wrap (56 - IntKind.i64.wrap (8 * (k : Int)))) = (q : Int) := by
      rw [hw1, ← hq]
      unfold shrI
      have : min (8 * ((7 - k : Nat) : Int)).toNat IntKind.u64.bits = 8 * (7 - k) := by
        simp only [IntKind.bits]
        omega
      rw [this, Int.fdiv_eq_ediv_of_nonneg _ (by exact Int.pow_nonneg (by decide)), show ((2 : Int) ^ (8 * (7 - k))) = ((256 ^ (7 - k) : Nat) : Int) by rw [show (256 : Nat) = 2 ^ 8 from rfl, ← Nat.pow_mul]; simp]
      rfl
    have hand : bitAnd .u64 (shrI .u64 (n : Int) (IntKind.i64.wrap (56 - IntKind.i64.wrap (8 * (k : Int))))) 255 = ((q % 256 : Nat) : Int) := by
      rw [hsh]
      unfold bitAnd
      have e1 : BitVec.ofInt 64 (q : Int) = BitVec.ofNat 64 q := by simp
      have e2 : BitVec.ofInt 64 255 = BitVec.ofNat 64 255 := by rfl
      show IntKind.u64.wrap (((BitVec.ofInt 64 (q : Int)) &&& (BitVec.ofInt 64 255)).toNat : Int) = _
      rw [e1, e2, BitVec.toNat_and, BitVec.toNat_ofNat, BitVec.toNat_ofNat, Nat.mod_eq_of_lt hq64, show 255 % 2 ^ 64 = 2 ^ 8 - 1 from rfl, Nat.and_two_pow_sub_one_eq_mod, wrap_u64 (by omega) (by omega)]
    have hone : IntKind.i64.wrap (bitAnd .u64 (shrI .u64 (n : Int) (IntKind.i64.wrap (56 - IntKind.i64.wrap (8 * (k : Int))))) 255) = ((q % 256 : Nat) : Int) := by rw [hand, wrap_i64 (by omega) (by omega)]
    have htk := beb8_take n hk8
    rw [hq, ← ofNat_mod] at htk
    have hwr : IntKind.i64.wrap ((k : Int) + 1) = ((k + 1 : Nat) : Int) := by rw [wrap_i64 (by omega) (by omega)]; rfl
    have hlen : ((beb n 8).take k).length + [UInt8.ofNat (q % 256)].length ≤ 9223372036854775807 := by rw [List.length_take, hb8]; show _ + 1 ≤ _; omega
    (conv => whnf)
    (repeat (first | (refine Need.mk hn0 ?_; conv => whnf) | (refine CallVC.auto (one_k.gl (G := [(0, y0 :: cs0)])) ⟨_, hone, ?_⟩; conv => whnf) | (refine Need.mk hlen ?_; conv => whnf) | (exact Out.same; conv => whnf) | (exact Out1.same; conv => whnf) | (refine QAnd.mk ?_ ?_; conv => whnf) | (apply QStepH.go; conv => whnf) | (refine Both.lit_true ?_; conv => whnf) | (refine Both.lit_false ?_; conv => whnf) | (apply QStep.go; conv => whnf) | (refine Need.mk ?_ ?_; (focus (first | omega | exact ⟨by omega, by omega⟩ | rfl | exact ⟨rfl, rfl⟩ | exact ⟨rfl, by omega, by omega⟩ | exact ⟨by omega, by omega, by omega⟩ | exact ⟨rfl, Nat.le_of_ble_eq_true rfl⟩ | exact Nat.le_of_ble_eq_true rfl | (refine ⟨rfl, rfl, ?_⟩; simp [isFar, ofV0, CV.up, SV.renL, SV.ren] <;> fail) | (refine ⟨rfl, Nat.le_of_ble_eq_true rfl, ?_⟩; simp [isFar, ofV0, CV.up, SV.renL, SV.ren] <;> fail) | (simp only [List.length_append, List.length_drop, List.length_take, List.length_replicate, List.length_map]; omega) | (simp <;> fail))); conv => whnf) | (refine ⟨_, rfl, ?_⟩; conv => whnf)))
    refine ⟨k + 1, by omega, by omega, Weak.auto ?_⟩
    (repeat' ((conv => whnf); first | exact True.intro | (refine And.intro ?_ ?_)))
    all_goals first | rfl | exact .eq rfl | exact congrArg (SV.int .i64) hwr | exact congrArg SV.str htk.symm
  have hk8 : k = 8 := by omega
  subst hk8
  rw [List.take_of_length_le (by omega)]
  (conv => whnf)
  (repeat (first | (refine CallVC.auto (shaSum_k hK) ⟨[[2], beb n 8, d], rfl, rfl, (by decide : 3 < 1000000000), hl, ?_⟩; conv => whnf) | (exact Out.same; conv => whnf) | (exact Out1.same; conv => whnf) | (refine QAnd.mk ?_ ?_; conv => whnf) | (apply QStepH.go; conv => whnf) | (refine Both.lit_true ?_; conv => whnf) | (refine Both.lit_false ?_; conv => whnf) | (apply QStep.go; conv => whnf) | (refine Need.mk ?_ ?_; (focus (first | omega | exact ⟨by omega, by omega⟩ | rfl | exact ⟨rfl, rfl⟩ | exact ⟨rfl, by omega, by omega⟩ | exact ⟨by omega, by omega, by omega⟩ | exact ⟨rfl, Nat.le_of_ble_eq_true rfl⟩ | exact Nat.le_of_ble_eq_true rfl | (refine ⟨rfl, rfl, ?_⟩; simp [isFar, ofV0, CV.up, SV.renL, SV.ren] <;> fail) | (refine ⟨rfl, Nat.le_of_ble_eq_true rfl, ?_⟩; simp [isFar, ofV0, CV.up, SV.renL, SV.ren] <;> fail) | (simp only [List.length_append, List.length_drop, List.length_take, List.length_replicate, List.length_map]; omega) | (simp <;> fail))); conv => whnf) | (refine ⟨_, rfl, ?_⟩; conv => whnf)))
  exact ⟨_, _, WeakV.drop rfl, h⟩
theorem top_k {y0 : CV} {cs0 : List CV} (hK : KAt y0 cs0) : Contract Tryd.prog [(0, y0 :: cs0)] 17 topS := ⟨⟨⟨_, rfl, rfl, rfl⟩⟩, top_c hK⟩
def mdigS (m : Nat) : Spec := fun args H Q => match args, H with
  | [.sl 2 n cs f], [] => ∃ l : List Pr, n = l.length ∧ cs = flP l ∧ 0 < l.length ∧ l.length ≤ m ∧ l.length < 60000 ∧ (∀ p ∈ l, okP p) ∧ Q (.str (dgP l)) []
  | _, _ => False
theorem mdig_c {y0 : CV} {cs0 : List CV} (hK : KAt y0 cs0) : ∀ m, Meets Tryd.prog [(0, y0 :: cs0)] 27 (mdigS m)
  | 0 => by
    intro args H Q h
    unfold mdigS at h
    split at h
    case h_2 => exact h.elim
    obtain ⟨l, _, _, h1, h2, _⟩ := h
    omega
  | m + 1 => by
    have ih : Contract Tryd.prog [(0, y0 :: cs0)] 27 (mdigS m) := ⟨⟨⟨_, rfl, rfl, rfl⟩⟩, mdig_c hK m⟩
    refine meets_of Γok Tryd.func27 rfl ?_
    intro args H Q h
    unfold mdigS at h
    split at h
    case h_2 => exact h.elim
    rename_i n cs f
    obtain ⟨l, rfl, rfl, h0, hm, h60, hok, h⟩ := h
    (refine sx_sound Γok _ ?_; conv => whnf)
    (repeat (first | (exact Out.same; conv => whnf) | (exact Out1.same; conv => whnf) | (refine QAnd.mk ?_ ?_; conv => whnf) | (apply QStepH.go; conv => whnf) | (refine Both.lit_true ?_; conv => whnf) | (refine Both.lit_false ?_; conv => whnf) | (apply QStep.go; conv => whnf) | (refine Need.mk ?_ ?_; (focus (first | omega | exact ⟨by omega, by omega⟩ | rfl | exact ⟨rfl, rfl⟩ | exact ⟨rfl, by omega, by omega⟩ | exact ⟨by omega, by omega, by omega⟩ | exact ⟨rfl, Nat.le_of_ble_eq_true rfl⟩ | exact Nat.le_of_ble_eq_true rfl | (refine ⟨rfl, rfl, ?_⟩; simp [isFar, ofV0, CV.up, SV.renL, SV.ren] <;> fail) | (refine ⟨rfl, Nat.le_of_ble_eq_true rfl, ?_⟩; simp [isFar, ofV0, CV.up, SV.renL, SV.ren] <;> fail) | (simp only [List.length_append, List.length_drop, List.length_take, List.length_replicate, List.length_map]; omega) | (simp <;> fail))); conv => whnf) | (refine ⟨_, rfl, ?_⟩; conv => whnf)))
    refine Both.dec (fun hone => ?_) (fun hmore => ?_)
    · have hl1 : l.length ≤ 1 := by omega
      have hat := flP_at l (k := 0) (by omega)
      have hp := hok (l.getD 0 ([], [])) (by rw [List.getD_eq_getElem?_getD, List.getElem?_eq_getElem (by omega)]; exact List.getElem_mem _)
      rw [dgP_one hl1] at h
      have hin : ti27.size = 2 ∧ (0 : Int) ≤ 0 ∧ (0 : Int) < ((l.length : Nat) : Int) := ⟨rfl, by omega, by omega⟩
      revert hat hp h
      generalize l.getD 0 ([], []) = p
      obtain ⟨k, v⟩ := p
      intro h hat hp
      (conv => whnf)
      (repeat (first | (refine Need.mk hin ?_; conv => whnf) | (refine ⟨_, hat, ?_⟩; conv => whnf) | (exact Out.same; conv => whnf) | (exact Out1.same; conv => whnf) | (refine QAnd.mk ?_ ?_; conv => whnf) | (apply QStepH.go; conv => whnf) | (refine Both.lit_true ?_; conv => whnf) | (refine Both.lit_false ?_; conv => whnf) | (apply QStep.go; conv => whnf) | (refine Need.mk ?_ ?_; (focus (first | omega | exact ⟨by omega, by omega⟩ | rfl | exact ⟨rfl, rfl⟩ | exact ⟨rfl, by omega, by omega⟩ | exact ⟨by omega, by omega, by omega⟩ | exact ⟨rfl, Nat.le_of_ble_eq_true rfl⟩ | exact Nat.le_of_ble_eq_true rfl | (refine ⟨rfl, rfl, ?_⟩; simp [isFar, ofV0, CV.up, SV.renL, SV.ren] <;> fail) | (refine ⟨rfl, Nat.le_of_ble_eq_true rfl, ?_⟩; simp [isFar, ofV0, CV.up, SV.renL, SV.ren] <;> fail) | (simp only [List.length_append, List.length_drop, List.length_take, List.length_replicate, List.length_map]; omega) | (simp <;> fail))); conv => whnf) | (refine ⟨_, rfl, ?_⟩; conv => whnf)))
      refine CallVC.auto (leaf_k hK) (Need.mk hp ?_)
      (conv => whnf)
      (repeat (first | (exact Out.same; conv => whnf) | (exact Out1.same; conv => whnf) | (refine QAnd.mk ?_ ?_; conv => whnf) | (apply QStepH.go; conv => whnf) | (refine Both.lit_true ?_; conv => whnf) | (refine Both.lit_false ?_; conv => whnf) | (apply QStep.go; conv => whnf) | (refine Need.mk ?_ ?_; (focus (first | omega | exact ⟨by omega, by omega⟩ | rfl | exact ⟨rfl, rfl⟩ | exact ⟨rfl, by omega, by omega⟩ | exact ⟨by omega, by omega, by omega⟩ | exact ⟨rfl, Nat.le_of_ble_eq_true rfl⟩ | exact Nat.le_of_ble_eq_true rfl | (refine ⟨rfl, rfl, ?_⟩; simp [isFar, ofV0, CV.up, SV.renL, SV.ren] <;> fail) | (refine ⟨rfl, Nat.le_of_ble_eq_true rfl, ?_⟩; simp [isFar, ofV0, CV.up, SV.renL, SV.ren] <;> fail) | (simp only [List.length_append, List.length_drop, List.length_take, List.length_replicate, List.length_map]; omega) | (simp <;> fail))); conv => whnf) | (refine ⟨_, rfl, ?_⟩; conv => whnf)))
      exact ⟨_, _, WeakV.drop rfl, h⟩
    · have hn1 : ¬ l.length ≤ 1 := by omega
      have hlt := lft_lt (n := l.length) (by omega)
      have hpos := lft_pos l.length
      rw [dgP_two hn1] at h
      have hcl := cut_lo l (k := lft l.length) (by omega)
      have hch := cut_hi l (k := lft l.length) (by omega)
      have l1 : (l.take (lft l.length)).length = lft l.length := by rw [List.length_take]; omega
      have l2 : (l.drop (lft l.length)).length = l.length - lft l.length := List.length_drop
      have d1 := dgP_len (l.take (lft l.length))
      have d2 := dgP_len (l.drop (lft l.length))
      have o1 : ∀ p ∈ l.take (lft l.length), okP p := fun p hp => hok p (List.mem_of_mem_take hp)
      have o2 : ∀ p ∈ l.drop (lft l.length), okP p := fun p hp => hok p (List.mem_of_mem_drop hp)
      revert h hlt hpos hcl hch l1 l2 d1 d2 o1 o2
      generalize hg : lft l.length = g
      generalize ha : l.take g = la
      generalize hb : l.drop g = lb
      intro h hlt hpos hcl hch l1 l2 d1 d2 o1 o2
      have c1 : ti27.size = 2 ∧ (0 : Int) ≤ 0 ∧ (0 : Int) ≤ ((g : Nat) : Int) ∧ ((g : Nat) : Int) ≤ ((l.length : Nat) : Int) := ⟨rfl, by omega, by omega, by omega⟩
      have c2 : ti27.size = 2 ∧ 0 ≤ ((g : Nat) : Int) ∧ ((g : Nat) : Int) ≤ ((l.length : Nat) : Int) ∧ ((l.length : Nat) : Int) ≤ ((l.length : Nat) : Int) := ⟨rfl, by omega, by omega, by omega⟩
      have n1 : ((g : Nat) : Int).toNat - (0 : Int).toNat = la.length := by rw [l1]; rfl
      have n2 : ((l.length : Nat) : Int).toNat - ((g : Nat) : Int).toNat = lb.length := by rw [l2]; rfl
      have nb : la.length ≤ m ∧ 0 < la.length ∧ la.length < 60000 ∧ lb.length ≤ m ∧ 0 < lb.length ∧ lb.length < 60000 := by omega
      obtain ⟨b1, b2, b3, b4, b5, b6⟩ := nb
      have dd : (dgP la).length < 50000 ∧ (dgP lb).length < 50000 := by rw [d1, d2]; decide
      (conv => whnf)
      (repeat (first | (exact Out.same; conv => whnf) | (exact Out1.same; conv => whnf) | (refine QAnd.mk ?_ ?_; conv => whnf) | (apply QStepH.go; conv => whnf) | (refine Both.lit_true ?_; conv => whnf) | (refine Both.lit_false ?_; conv => whnf) | (apply QStep.go; conv => whnf) | (refine Need.mk ?_ ?_; (focus (first | omega | exact ⟨by omega, by omega⟩ | rfl | exact ⟨rfl, rfl⟩ | exact ⟨rfl, by omega, by omega⟩ | exact ⟨by omega, by omega, by omega⟩ | exact ⟨rfl, Nat.le_of_ble_eq_true rfl⟩ | exact Nat.le_of_ble_eq_true rfl | (refine ⟨rfl, rfl, ?_⟩; simp [isFar, ofV0, CV.up, SV.renL, SV.ren] <;> fail) | (refine ⟨rfl, Nat.le_of_ble_eq_true rfl, ?_⟩; simp [isFar, ofV0, CV.up, SV.renL, SV.ren] <;> fail) | (simp only [List.length_append, List.length_drop, List.length_take, List.length_replicate, List.length_map]; omega) | (simp <;> fail))); conv => whnf) | (refine ⟨_, rfl, ?_⟩; conv => whnf)))
      refine CallVC.auto (lft_k.gl (G := [(0, y0 :: cs0)])) ⟨l.length, rfl, by omega, by omega, ?_⟩
      rw [hg]
      (conv => whnf)
      (refine DrawVC.any Γok (by kernel_rfl) (by kernel_rfl) (by kernel_rfl) (by rfl) ?_; conv => whnf)
      (repeat (first | (refine Need.mk c1 ?_; conv => whnf) | (refine Need.mk c2 ?_; conv => whnf) | (refine CallVC.auto ih ⟨la, n1, hcl, b2, b1, b3, o1, ?_⟩; conv => whnf) | (refine CallVC.auto ih ⟨lb, n2, hch, b5, b4, b6, o2, ?_⟩; conv => whnf) | (refine CallVC.auto (both_k hK) (Need.mk dd ?_); conv => whnf) | (exact Out.same; conv => whnf) | (exact Out1.same; conv => whnf) | (refine QAnd.mk ?_ ?_; conv => whnf) | (apply QStepH.go; conv => whnf) | (refine Both.lit_true ?_; conv => whnf) | (refine Both.lit_false ?_; conv => whnf) | (apply QStep.go; conv => whnf) | (refine Need.mk ?_ ?_; (focus (first | omega | exact ⟨by omega, by omega⟩ | rfl | exact ⟨rfl, rfl⟩ | exact ⟨rfl, by omega, by omega⟩ | exact ⟨by omega, by omega, by omega⟩ | exact ⟨rfl, Nat.le_of_ble_eq_true rfl⟩ | exact Nat.le_of_ble_eq_true rfl | (refine ⟨rfl, rfl, ?_⟩; simp [isFar, ofV0, CV.up, SV.renL, SV.ren] <;> fail) | (refine ⟨rfl, Nat.le_of_ble_eq_true rfl, ?_⟩; simp [isFar, ofV0, CV.up, SV.renL, SV.ren] <;> fail) | (simp only [List.length_append, List.length_drop, List.length_take, List.length_replicate, List.length_map]; omega) | (simp <;> fail))); conv => whnf) | (refine ⟨_, rfl, ?_⟩; conv => whnf)))
      exact ⟨_, _, WeakV.drop rfl, h⟩
theorem mdig_k {y0 : CV} {cs0 : List CV} (hK : KAt y0 cs0) (m : Nat) : Contract Tryd.prog [(0, y0 :: cs0)] 27 (mdigS m) := ⟨⟨⟨_, rfl, rfl, rfl⟩⟩, mdig_c hK m⟩
def mrootS : Spec := fun args H Q => match args, H with
  | [.nilsl], [] => Q (.str (shaD (topX 0 []))) []
  | [.sl 2 n cs f], [] => ∃ l : List Pr, n = l.length ∧ cs = flP l ∧ l.length < 60000 ∧ (∀ p ∈ l, okP p) ∧ Q (.str (shaD (rootX l))) []
  | _, _ => False
theorem mroot_c {y0 : CV} {cs0 : List CV} (hK : KAt y0 cs0) : Meets Tryd.prog [(0, y0 :: cs0)] 12 mrootS := by
  refine meets_of Γok Tryd.func12 rfl ?_
  intro args H Q h
  unfold mrootS at h
  split at h
  case h_3 => exact h.elim
  · (refine sx_sound Γok _ ?_; conv => whnf)
    (repeat (first | (exact Out.same; conv => whnf) | (exact Out1.same; conv => whnf) | (refine QAnd.mk ?_ ?_; conv => whnf) | (apply QStepH.go; conv => whnf) | (refine Both.lit_true ?_; conv => whnf) | (refine Both.lit_false ?_; conv => whnf) | (apply QStep.go; conv => whnf) | (refine Need.mk ?_ ?_; (focus (first | omega | exact ⟨by omega, by omega⟩ | rfl | exact ⟨rfl, rfl⟩ | exact ⟨rfl, by omega, by omega⟩ | exact ⟨by omega, by omega, by omega⟩ | exact ⟨rfl, Nat.le_of_ble_eq_true rfl⟩ | exact Nat.le_of_ble_eq_true rfl | (refine ⟨rfl, rfl, ?_⟩; simp [isFar, ofV0, CV.up, SV.renL, SV.ren] <;> fail) | (refine ⟨rfl, Nat.le_of_ble_eq_true rfl, ?_⟩; simp [isFar, ofV0, CV.up, SV.renL, SV.ren] <;> fail) | (simp only [List.length_append, List.length_drop, List.length_take, List.length_replicate, List.length_map]; omega) | (simp <;> fail))); conv => whnf) | (refine ⟨_, rfl, ?_⟩; conv => whnf) | (refine Both.of_false ?_ ?_; (focus (first | rfl | (simp <;> fail))); conv => whnf) | (refine Both.of_true ?_ ?_; (focus (first | rfl | (simp <;> fail))); conv => whnf)))
    refine CallVC.auto (top_k hK) (Need.mk (by decide) ?_)
    (conv => whnf)
    (repeat (first | (exact Out.same; conv => whnf) | (exact Out1.same; conv => whnf) | (refine QAnd.mk ?_ ?_; conv => whnf) | (apply QStepH.go; conv => whnf) | (refine Both.lit_true ?_; conv => whnf) | (refine Both.lit_false ?_; conv => whnf) | (apply QStep.go; conv => whnf) | (refine Need.mk ?_ ?_; (focus (first | omega | exact ⟨by omega, by omega⟩ | rfl | exact ⟨rfl, rfl⟩ | exact ⟨rfl, by omega, by omega⟩ | exact ⟨by omega, by omega, by omega⟩ | exact ⟨rfl, Nat.le_of_ble_eq_true rfl⟩ | exact Nat.le_of_ble_eq_true rfl | (refine ⟨rfl, rfl, ?_⟩; simp [isFar, ofV0, CV.up, SV.renL, SV.ren] <;> fail) | (refine ⟨rfl, Nat.le_of_ble_eq_true rfl, ?_⟩; simp [isFar, ofV0, CV.up, SV.renL, SV.ren] <;> fail) | (simp only [List.length_append, List.length_drop, List.length_take, List.length_replicate, List.length_map]; omega) | (simp <;> fail))); conv => whnf) | (refine ⟨_, rfl, ?_⟩; conv => whnf)))
    exact ⟨_, _, WeakV.drop rfl, h⟩
  rename_i n cs f
  obtain ⟨l, rfl, rfl, h60, hok, h⟩ := h
  (refine sx_sound Γok _ ?_; conv => whnf)
  (repeat (first | (exact Out.same; conv => whnf) | (exact Out1.same; conv => whnf) | (refine QAnd.mk ?_ ?_; conv => whnf) | (apply QStepH.go; conv => whnf) | (refine Both.lit_true ?_; conv => whnf) | (refine Both.lit_false ?_; conv => whnf) | (apply QStep.go; conv => whnf) | (refine Need.mk ?_ ?_; (focus (first | omega | exact ⟨by omega, by omega⟩ | rfl | exact ⟨rfl, rfl⟩ | exact ⟨rfl, by omega, by omega⟩ | exact ⟨by omega, by omega, by omega⟩ | exact ⟨rfl, Nat.le_of_ble_eq_true rfl⟩ | exact Nat.le_of_ble_eq_true rfl | (refine ⟨rfl, rfl, ?_⟩; simp [isFar, ofV0, CV.up, SV.renL, SV.ren] <;> fail) | (refine ⟨rfl, Nat.le_of_ble_eq_true rfl, ?_⟩; simp [isFar, ofV0, CV.up, SV.renL, SV.ren] <;> fail) | (simp only [List.length_append, List.length_drop, List.length_take, List.length_replicate, List.length_map]; omega) | (simp <;> fail))); conv => whnf) | (refine ⟨_, rfl, ?_⟩; conv => whnf)))
  refine Both.dec (fun hz => ?_) (fun hnz => ?_)
  · have hl0 : l.length = 0 := by omega
    unfold rootX at h
    rw [if_pos hl0] at h
    (conv => whnf)
    (repeat (first | (exact Out.same; conv => whnf) | (exact Out1.same; conv => whnf) | (refine QAnd.mk ?_ ?_; conv => whnf) | (apply QStepH.go; conv => whnf) | (refine Both.lit_true ?_; conv => whnf) | (refine Both.lit_false ?_; conv => whnf) | (apply QStep.go; conv => whnf) | (refine Need.mk ?_ ?_; (focus (first | omega | exact ⟨by omega, by omega⟩ | rfl | exact ⟨rfl, rfl⟩ | exact ⟨rfl, by omega, by omega⟩ | exact ⟨by omega, by omega, by omega⟩ | exact ⟨rfl, Nat.le_of_ble_eq_true rfl⟩ | exact Nat.le_of_ble_eq_true rfl | (refine ⟨rfl, rfl, ?_⟩; simp [isFar, ofV0, CV.up, SV.renL, SV.ren] <;> fail) | (refine ⟨rfl, Nat.le_of_ble_eq_true rfl, ?_⟩; simp [isFar, ofV0, CV.up, SV.renL, SV.ren] <;> fail) | (simp only [List.length_append, List.length_drop, List.length_take, List.length_replicate, List.length_map]; omega) | (simp <;> fail))); conv => whnf) | (refine ⟨_, rfl, ?_⟩; conv => whnf)))
    refine CallVC.auto (top_k hK) (Need.mk (by decide) ?_)
    (conv => whnf)
    (repeat (first | (exact Out.same; conv => whnf) | (exact Out1.same; conv => whnf) | (refine QAnd.mk ?_ ?_; conv => whnf) | (apply QStepH.go; conv => whnf) | (refine Both.lit_true ?_; conv => whnf) | (refine Both.lit_false ?_; conv => whnf) | (apply QStep.go; conv => whnf) | (refine Need.mk ?_ ?_; (focus (first | omega | exact ⟨by omega, by omega⟩ | rfl | exact ⟨rfl, rfl⟩ | exact ⟨rfl, by omega, by omega⟩ | exact ⟨by omega, by omega, by omega⟩ | exact ⟨rfl, Nat.le_of_ble_eq_true rfl⟩ | exact Nat.le_of_ble_eq_true rfl | (refine ⟨rfl, rfl, ?_⟩; simp [isFar, ofV0, CV.up, SV.renL, SV.ren] <;> fail) | (refine ⟨rfl, Nat.le_of_ble_eq_true rfl, ?_⟩; simp [isFar, ofV0, CV.up, SV.renL, SV.ren] <;> fail) | (simp only [List.length_append, List.length_drop, List.length_take, List.length_replicate, List.length_map]; omega) | (simp <;> fail))); conv => whnf) | (refine ⟨_, rfl, ?_⟩; conv => whnf)))
    exact ⟨_, _, WeakV.drop rfl, h⟩
  · have hl0 : ¬ l.length = 0 := by omega
    unfold rootX at h
    rw [if_neg hl0] at h
    have hd := dgP_len l
    have hc : -9223372036854775808 ≤ ((l.length : Nat) : Int) ∧ ((l.length : Nat) : Int) ≤ 9223372036854775807 ∧ (dgP l).length < 50000 := ⟨by omega, by omega, by omega⟩
    (conv => whnf)
    (repeat (first | (exact Out.same; conv => whnf) | (exact Out1.same; conv => whnf) | (refine QAnd.mk ?_ ?_; conv => whnf) | (apply QStepH.go; conv => whnf) | (refine Both.lit_true ?_; conv => whnf) | (refine Both.lit_false ?_; conv => whnf) | (apply QStep.go; conv => whnf) | (refine Need.mk ?_ ?_; (focus (first | omega | exact ⟨by omega, by omega⟩ | rfl | exact ⟨rfl, rfl⟩ | exact ⟨rfl, by omega, by omega⟩ | exact ⟨by omega, by omega, by omega⟩ | exact ⟨rfl, Nat.le_of_ble_eq_true rfl⟩ | exact Nat.le_of_ble_eq_true rfl | (refine ⟨rfl, rfl, ?_⟩; simp [isFar, ofV0, CV.up, SV.renL, SV.ren] <;> fail) | (refine ⟨rfl, Nat.le_of_ble_eq_true rfl, ?_⟩; simp [isFar, ofV0, CV.up, SV.renL, SV.ren] <;> fail) | (simp only [List.length_append, List.length_drop, List.length_take, List.length_replicate, List.length_map]; omega) | (simp <;> fail))); conv => whnf) | (refine ⟨_, rfl, ?_⟩; conv => whnf)))
    refine CallVC.auto (mdig_k hK l.length) ⟨l, rfl, rfl, by omega, Nat.le_refl _, h60, hok, ?_⟩
    (conv => whnf)
    (repeat (first | (exact Out.same; conv => whnf) | (exact Out1.same; conv => whnf) | (refine QAnd.mk ?_ ?_; conv => whnf) | (apply QStepH.go; conv => whnf) | (refine Both.lit_true ?_; conv => whnf) | (refine Both.lit_false ?_; conv => whnf) | (apply QStep.go; conv => whnf) | (refine Need.mk ?_ ?_; (focus (first | omega | exact ⟨by omega, by omega⟩ | rfl | exact ⟨rfl, rfl⟩ | exact ⟨rfl, by omega, by omega⟩ | exact ⟨by omega, by omega, by omega⟩ | exact ⟨rfl, Nat.le_of_ble_eq_true rfl⟩ | exact Nat.le_of_ble_eq_true rfl | (refine ⟨rfl, rfl, ?_⟩; simp [isFar, ofV0, CV.up, SV.renL, SV.ren] <;> fail) | (refine ⟨rfl, Nat.le_of_ble_eq_true rfl, ?_⟩; simp [isFar, ofV0, CV.up, SV.renL, SV.ren] <;> fail) | (simp only [List.length_append, List.length_drop, List.length_take, List.length_replicate, List.length_map]; omega) | (simp <;> fail))); conv => whnf) | (refine ⟨_, rfl, ?_⟩; conv => whnf)))
    refine CallVC.auto (top_k hK) (Need.mk hc ?_)
    (conv => whnf)
    (repeat (first | (exact Out.same; conv => whnf) | (exact Out1.same; conv => whnf) | (refine QAnd.mk ?_ ?_; conv => whnf) | (apply QStepH.go; conv => whnf) | (refine Both.lit_true ?_; conv => whnf) | (refine Both.lit_false ?_; conv => whnf) | (apply QStep.go; conv => whnf) | (refine Need.mk ?_ ?_; (focus (first | omega | exact ⟨by omega, by omega⟩ | rfl | exact ⟨rfl, rfl⟩ | exact ⟨rfl, by omega, by omega⟩ | exact ⟨by omega, by omega, by omega⟩ | exact ⟨rfl, Nat.le_of_ble_eq_true rfl⟩ | exact Nat.le_of_ble_eq_true rfl | (refine ⟨rfl, rfl, ?_⟩; simp [isFar, ofV0, CV.up, SV.renL, SV.ren] <;> fail) | (refine ⟨rfl, Nat.le_of_ble_eq_true rfl, ?_⟩; simp [isFar, ofV0, CV.up, SV.renL, SV.ren] <;> fail) | (simp only [List.length_append, List.length_drop, List.length_take, List.length_replicate, List.length_map]; omega) | (simp <;> fail))); conv => whnf) | (refine ⟨_, rfl, ?_⟩; conv => whnf)))
    exact ⟨_, _, WeakV.drop rfl, h⟩
theorem mroot_k {y0 : CV} {cs0 : List CV} (hK : KAt y0 cs0) : Contract Tryd.prog [(0, y0 :: cs0)] 12 mrootS := ⟨⟨⟨_, rfl, rfl, rfl⟩⟩, mroot_c hK⟩
end Go.LX
end
section
set_option maxRecDepth 100000
set_option maxHeartbeats 2000000
set_option autoImplicit false
set_option linter.unusedVariables false
set_option linter.unusedSimpArgs false
namespace Go.LX
open Go.Proofs

/-! ## The document's digests, with a book -/
def inB (H : List LObj) (c : List Bs → Prop) : Prop :=
  match H with
  | [.cells [.sl 1 64 ka false, .sl 1 8 kb false, .mp 1, .bool cl] 35, .map 2 es] => ∃ T, ka = ks kT ∧ kb = ks hT ∧ cl = bcl T ∧ es = bes T ∧ c T
  | _ => False
theorem inB_out {H : List LObj} {c : List Bs → Prop} (h : inB H c) : ∃ T, H = bkO T ∧ c T := by
  unfold inB at h
  split at h
  · obtain ⟨T, rfl, rfl, rfl, rfl, h⟩ := h
    exact ⟨T, rfl, h⟩
  · exact h.elim
theorem inB_mk {T : List Bs} {c : List Bs → Prop} (h : c T) : inB (bkO T) c := ⟨T, rfl, rfl, rfl, rfl, h⟩
def rleafS : Spec := fun args H Q => match args with
  | [.ptr 0 0, .agg [.str k, .str v]] => inB H fun T => k.length < 50000 ∧ v.length < 50000 ∧ Q (.str (shaD (txLeaf (k, v)))) (bkO (txLeaf (k, v) :: T))
  | _ => False
theorem beb_one (n : Nat) : beb n 1 = [UInt8.ofNat n] := by
  show [UInt8.ofNat (n / 256 ^ 0)] = _
  rw [Nat.pow_zero, Nat.div_one]
theorem rleaf_c : Meets Tryd.prog [] 20 rleafS := by
  refine meets_of Γok Tryd.func20 rfl ?_
  intro args H Q h
  unfold rleafS at h
  split at h
  case h_2 => exact h.elim
  rename_i k v
  obtain ⟨T, rfl, hk, hv, h⟩ := inB_out h
  have hx : ((([0] ++ beb k.length 1) ++ k) ++ beb v.length 1) ++ v = txLeaf (k, v) := by rw [beb_one, beb_one]; rfl
  have hxl : (txLeaf (k, v)).length < 900000 := by simp [txLeaf]; omega
  have hwk : IntKind.u64.wrap ((k.length : Nat) : Int) = ((k.length : Nat) : Int) := wrap_u64 (by omega) (by omega)
  have hwv : IntKind.u64.wrap ((v.length : Nat) : Int) = ((v.length : Nat) : Int) := wrap_u64 (by omega) (by omega)
  have hkb : k.length < 18446744073709551616 := by omega
  have hvb : v.length < 18446744073709551616 := by omega
  have n1 : ([0] : Bs).length + (beb k.length 1).length ≤ 9223372036854775807 := by rw [beb_length]; decide
  have n2 : ([0] ++ beb k.length 1 : Bs).length + k.length ≤ 9223372036854775807 := by rw [List.length_append, beb_length]; show 1 + 1 + _ ≤ _; omega
  have n3 : (([0] ++ beb k.length 1) ++ k : Bs).length + (beb v.length 1).length ≤ 9223372036854775807 := by rw [List.length_append, List.length_append, beb_length, beb_length]; show 1 + 1 + _ + 1 ≤ _; omega
  have n4 : ((([0] ++ beb k.length 1) ++ k) ++ beb v.length 1 : Bs).length + v.length ≤ 9223372036854775807 := by rw [List.length_append, List.length_append, List.length_append, beb_length, beb_length]; show 1 + 1 + _ + 1 + _ ≤ _; omega
  rw [← hx] at h hxl
  (refine sx_sound Γok _ ?_; conv => whnf)
  (refine DrawVC.any Γok (by kernel_rfl) (by kernel_rfl) (by kernel_rfl) (by rfl) ?_; conv => whnf)
  (repeat (first | (refine CallVC.auto rb_k ⟨k.length, 1, hwk, hkb, rfl, by decide, ?_⟩; conv => whnf) | (refine CallVC.auto rb_k ⟨v.length, 1, hwv, hvb, rfl, by decide, ?_⟩; conv => whnf) | (refine Need.mk n1 ?_; conv => whnf) | (refine Need.mk n2 ?_; conv => whnf) | (refine Need.mk n3 ?_; conv => whnf) | (refine Need.mk n4 ?_; conv => whnf) | (refine CallVC.auto bsum_k ⟨T, rfl, rfl, rfl, rfl, hxl, ?_⟩; conv => whnf) | (exact Out.same; conv => whnf) | (exact Out1.same; conv => whnf) | (refine QAnd.mk ?_ ?_; conv => whnf) | (apply QStepH.go; conv => whnf) | (refine Both.lit_true ?_; conv => whnf) | (refine Both.lit_false ?_; conv => whnf) | (apply QStep.go; conv => whnf) | (refine Need.mk ?_ ?_; (focus (first | omega | exact ⟨by omega, by omega⟩ | rfl | exact ⟨rfl, rfl⟩ | exact ⟨rfl, by omega, by omega⟩ | exact ⟨by omega, by omega, by omega⟩ | exact ⟨rfl, Nat.le_of_ble_eq_true rfl⟩ | exact Nat.le_of_ble_eq_true rfl | (refine ⟨rfl, rfl, ?_⟩; simp [isFar, ofV0, CV.up, SV.renL, SV.ren] <;> fail) | (refine ⟨rfl, Nat.le_of_ble_eq_true rfl, ?_⟩; simp [isFar, ofV0, CV.up, SV.renL, SV.ren] <;> fail) | (simp only [List.length_append, List.length_drop, List.length_take, List.length_replicate, List.length_map]; omega) | (simp <;> fail))); conv => whnf) | (refine ⟨_, rfl, ?_⟩; conv => whnf)))
  refine ⟨_, _, WeakV.auto ?_, h⟩
  (repeat' ((conv => whnf); first | exact True.intro | (refine And.intro ?_ ?_)))
  all_goals first | rfl | exact .eq rfl
theorem rleaf_k : Contract Tryd.prog [] 20 rleafS := ⟨⟨⟨_, rfl, rfl, rfl⟩⟩, rleaf_c⟩
def rlftS : Spec := fun args H Q => match args, H with
  | [.int .i64 x], [] => ∃ n : Nat, x = n ∧ 1 < n ∧ n < 65536 ∧ Q (.int .i64 ((lft n : Nat) : Int)) []
  | _, _ => False
theorem rlft_c : Meets Tryd.prog [] 35 rlftS := by
  refine meets_of Γok Tryd.func35 rfl ?_
  intro args H Q h
  unfold rlftS at h
  split at h
  case h_2 => exact h.elim
  obtain ⟨n, rfl, h1, h2, h⟩ := h
  (refine sx_sound Γok _ ?_; conv => whnf)
  (repeat (first | (exact Out.same; conv => whnf) | (exact Out1.same; conv => whnf) | (refine QAnd.mk ?_ ?_; conv => whnf) | (apply QStepH.go; conv => whnf) | (refine Both.lit_true ?_; conv => whnf) | (refine Both.lit_false ?_; conv => whnf) | (apply QStep.go; conv => whnf) | (refine Need.mk ?_ ?_; (focus (first | omega | exact ⟨by omega, by omega⟩ | rfl | exact ⟨rfl, rfl⟩ | exact ⟨rfl, by omega, by omega⟩ | exact ⟨by omega, by omega, by omega⟩ | exact ⟨rfl, Nat.le_of_ble_eq_true rfl⟩ | exact Nat.le_of_ble_eq_true rfl | (refine ⟨rfl, rfl, ?_⟩; simp [isFar, ofV0, CV.up, SV.renL, SV.ren] <;> fail) | (refine ⟨rfl, Nat.le_of_ble_eq_true rfl, ?_⟩; simp [isFar, ofV0, CV.up, SV.renL, SV.ren] <;> fail) | (simp only [List.length_append, List.length_drop, List.length_take, List.length_replicate, List.length_map]; omega) | (simp <;> fail))); conv => whnf) | (refine ⟨_, rfl, ?_⟩; conv => whnf)))
  refine loop_rule (fun j : Nat => ⟨[.int .i64 (n : Int), .any, .any, .int .i64 ((2 ^ j : Nat) : Int), .any, .any, .any, .any, .any, .any, .any], []⟩) (fun j => 2 ^ j < n) (fun j => n - 2 ^ j) 0 (by show 1 < n; exact h1) (Weak.auto ?_) ?_
  · (repeat' ((conv => whnf); first | exact True.intro | (refine And.intro ?_ ?_)))
    all_goals first | rfl | exact .eq rfl
  intro j hj
  have hp : (2 : Nat) ^ (j + 1) = 2 * 2 ^ j := by rw [Nat.pow_succ]; omega
  have hpos : 0 < 2 ^ j := Nat.pow_pos (by decide)
  have hlf : ¬ 2 * 2 ^ j < n → lft n = 2 ^ j := fun h => lft_eq hj (by omega)
  revert hj hp hpos hlf
  generalize hz1 : 2 ^ (j + 1) = z1
  generalize 2 ^ j = z
  intro hj hp hpos hlf
  have hw : IntKind.i64.wrap ((z : Int) * 2) = ((2 * z : Nat) : Int) := by rw [wrap_i64 (by omega) (by omega)]; omega
  have hw2 : IntKind.i64.wrap ((z : Int) * 2) = ((2 ^ (j + 1) : Nat) : Int) := by rw [hw, hz1, hp]
  (refine sx_sound Γok _ ?_; conv => whnf)
  (repeat (first | (exact Out.same; conv => whnf) | (exact Out1.same; conv => whnf) | (refine QAnd.mk ?_ ?_; conv => whnf) | (apply QStepH.go; conv => whnf) | (refine Both.lit_true ?_; conv => whnf) | (refine Both.lit_false ?_; conv => whnf) | (apply QStep.go; conv => whnf) | (refine Need.mk ?_ ?_; (focus (first | omega | exact ⟨by omega, by omega⟩ | rfl | exact ⟨rfl, rfl⟩ | exact ⟨rfl, by omega, by omega⟩ | exact ⟨by omega, by omega, by omega⟩ | exact ⟨rfl, Nat.le_of_ble_eq_true rfl⟩ | exact Nat.le_of_ble_eq_true rfl | (refine ⟨rfl, rfl, ?_⟩; simp [isFar, ofV0, CV.up, SV.renL, SV.ren] <;> fail) | (refine ⟨rfl, Nat.le_of_ble_eq_true rfl, ?_⟩; simp [isFar, ofV0, CV.up, SV.renL, SV.ren] <;> fail) | (simp only [List.length_append, List.length_drop, List.length_take, List.length_replicate, List.length_map]; omega) | (simp <;> fail))); conv => whnf) | (refine ⟨_, rfl, ?_⟩; conv => whnf)))
  refine Both.dec (fun hlt => ?_) (fun hge => ?_)
  · rw [hw] at hlt
    (conv => whnf)
    (repeat (first | (exact Out.same; conv => whnf) | (exact Out1.same; conv => whnf) | (refine QAnd.mk ?_ ?_; conv => whnf) | (apply QStepH.go; conv => whnf) | (refine Both.lit_true ?_; conv => whnf) | (refine Both.lit_false ?_; conv => whnf) | (apply QStep.go; conv => whnf) | (refine Need.mk ?_ ?_; (focus (first | omega | exact ⟨by omega, by omega⟩ | rfl | exact ⟨rfl, rfl⟩ | exact ⟨rfl, by omega, by omega⟩ | exact ⟨by omega, by omega, by omega⟩ | exact ⟨rfl, Nat.le_of_ble_eq_true rfl⟩ | exact Nat.le_of_ble_eq_true rfl | (refine ⟨rfl, rfl, ?_⟩; simp [isFar, ofV0, CV.up, SV.renL, SV.ren] <;> fail) | (refine ⟨rfl, Nat.le_of_ble_eq_true rfl, ?_⟩; simp [isFar, ofV0, CV.up, SV.renL, SV.ren] <;> fail) | (simp only [List.length_append, List.length_drop, List.length_take, List.length_replicate, List.length_map]; omega) | (simp <;> fail))); conv => whnf) | (refine ⟨_, rfl, ?_⟩; conv => whnf)))
    refine ⟨j + 1, by show 2 ^ (j + 1) < n; omega, by show n - 2 ^ (j + 1) < n - z; omega, Weak.auto ?_⟩
    (repeat' ((conv => whnf); first | exact True.intro | (refine And.intro ?_ ?_)))
    all_goals first | rfl | exact .eq rfl | exact congrArg (SV.int .i64) hw2
  · rw [hw] at hge
    rw [hlf (by omega)] at h
    (conv => whnf)
    (repeat (first | (exact Out.same; conv => whnf) | (exact Out1.same; conv => whnf) | (refine QAnd.mk ?_ ?_; conv => whnf) | (apply QStepH.go; conv => whnf) | (refine Both.lit_true ?_; conv => whnf) | (refine Both.lit_false ?_; conv => whnf) | (apply QStep.go; conv => whnf) | (refine Need.mk ?_ ?_; (focus (first | omega | exact ⟨by omega, by omega⟩ | rfl | exact ⟨rfl, rfl⟩ | exact ⟨rfl, by omega, by omega⟩ | exact ⟨by omega, by omega, by omega⟩ | exact ⟨rfl, Nat.le_of_ble_eq_true rfl⟩ | exact Nat.le_of_ble_eq_true rfl | (refine ⟨rfl, rfl, ?_⟩; simp [isFar, ofV0, CV.up, SV.renL, SV.ren] <;> fail) | (refine ⟨rfl, Nat.le_of_ble_eq_true rfl, ?_⟩; simp [isFar, ofV0, CV.up, SV.renL, SV.ren] <;> fail) | (simp only [List.length_append, List.length_drop, List.length_take, List.length_replicate, List.length_map]; omega) | (simp <;> fail))); conv => whnf) | (refine ⟨_, rfl, ?_⟩; conv => whnf)))
    exact ⟨_, _, WeakV.drop rfl, h⟩
theorem rlft_k : Contract Tryd.prog [] 35 rlftS := ⟨⟨⟨_, rfl, rfl, rfl⟩⟩, rlft_c⟩
def rtopS : Spec := fun args H Q => match args with
  | [.ptr 0 0, .int .i64 c, .str d] => inB H fun T => -9223372036854775808 ≤ c ∧ c ≤ 9223372036854775807 ∧ d.length < 50000 ∧ Q (.str (shaD (topX c.toNat d))) (bkO (topX c.toNat d :: T))
  | _ => False
theorem rtop_c : Meets Tryd.prog [] 18 rtopS := by
  refine meets_of Γok Tryd.func18 rfl ?_
  intro args H Q h
  unfold rtopS at h
  split at h
  case h_2 => exact h.elim
  rename_i c d
  obtain ⟨T, rfl, hc0, hc1, hd, h⟩ := inB_out h
  have hx : ∀ n, ([2] ++ beb n 8) ++ d = topX n d := fun n => rfl
  have hxl : ∀ n, (topX n d).length < 900000 := fun n => by simp [topX, beb_length]; omega
  have n1 : ∀ n, ([2] : Bs).length + (beb n 8).length ≤ 9223372036854775807 := fun n => by rw [beb_length]; decide
  have n2 : ∀ n, ([2] ++ beb n 8 : Bs).length + d.length ≤ 9223372036854775807 := fun n => by rw [List.length_append, beb_length]; show 1 + 8 + _ ≤ _; omega
  (refine sx_sound Γok _ ?_; conv => whnf)
  (repeat (first | (exact Out.same; conv => whnf) | (exact Out1.same; conv => whnf) | (refine QAnd.mk ?_ ?_; conv => whnf) | (apply QStepH.go; conv => whnf) | (refine Both.lit_true ?_; conv => whnf) | (refine Both.lit_false ?_; conv => whnf) | (apply QStep.go; conv => whnf) | (refine Need.mk ?_ ?_; (focus (first | omega | exact ⟨by omega, by omega⟩ | rfl | exact ⟨rfl, rfl⟩ | exact ⟨rfl, by omega, by omega⟩ | exact ⟨by omega, by omega, by omega⟩ | exact ⟨rfl, Nat.le_of_ble_eq_true rfl⟩ | exact Nat.le_of_ble_eq_true rfl | (refine ⟨rfl, rfl, ?_⟩; simp [isFar, ofV0, CV.up, SV.renL, SV.ren] <;> fail) | (refine ⟨rfl, Nat.le_of_ble_eq_true rfl, ?_⟩; simp [isFar, ofV0, CV.up, SV.renL, SV.ren] <;> fail) | (simp only [List.length_append, List.length_drop, List.length_take, List.length_replicate, List.length_map]; omega) | (simp <;> fail))); conv => whnf) | (refine ⟨_, rfl, ?_⟩; conv => whnf)))
  refine Both.dec (fun hneg => ?_) (fun hpos => ?_)
  · have hz : c.toNat = 0 := by omega
    have hw : IntKind.u64.wrap (0 : Int) = ((0 : Nat) : Int) := by decide
    rw [hz] at h
    (conv => whnf)
    (repeat (first | (refine CallVC.auto rb_k ⟨0, 8, hw, by decide, rfl, by decide, ?_⟩; conv => whnf) | (refine Need.mk (n1 0) ?_; conv => whnf) | (refine Need.mk (n2 0) ?_; conv => whnf) | (refine CallVC.auto bsum_k ⟨T, rfl, rfl, rfl, rfl, hxl 0, ?_⟩; conv => whnf) | (exact Out.same; conv => whnf) | (exact Out1.same; conv => whnf) | (refine QAnd.mk ?_ ?_; conv => whnf) | (apply QStepH.go; conv => whnf) | (refine Both.lit_true ?_; conv => whnf) | (refine Both.lit_false ?_; conv => whnf) | (apply QStep.go; conv => whnf) | (refine Need.mk ?_ ?_; (focus (first | omega | exact ⟨by omega, by omega⟩ | rfl | exact ⟨rfl, rfl⟩ | exact ⟨rfl, by omega, by omega⟩ | exact ⟨by omega, by omega, by omega⟩ | exact ⟨rfl, Nat.le_of_ble_eq_true rfl⟩ | exact Nat.le_of_ble_eq_true rfl | (refine ⟨rfl, rfl, ?_⟩; simp [isFar, ofV0, CV.up, SV.renL, SV.ren] <;> fail) | (refine ⟨rfl, Nat.le_of_ble_eq_true rfl, ?_⟩; simp [isFar, ofV0, CV.up, SV.renL, SV.ren] <;> fail) | (simp only [List.length_append, List.length_drop, List.length_take, List.length_replicate, List.length_map]; omega) | (simp <;> fail))); conv => whnf) | (refine ⟨_, rfl, ?_⟩; conv => whnf)))
    refine ⟨_, _, WeakV.auto ?_, h⟩
    (repeat' ((conv => whnf); first | exact True.intro | (refine And.intro ?_ ?_)))
    all_goals first | rfl | exact .eq rfl
  · have hw : IntKind.u64.wrap c = ((c.toNat : Nat) : Int) := by rw [wrap_u64 (by omega) (by omega)]; omega
    have hb : c.toNat < 18446744073709551616 := by omega
    revert h hw hb
    generalize c.toNat = n
    intro h hw hb
    (conv => whnf)
    (repeat (first | (refine CallVC.auto rb_k ⟨n, 8, hw, hb, rfl, by decide, ?_⟩; conv => whnf) | (refine Need.mk (n1 n) ?_; conv => whnf) | (refine Need.mk (n2 n) ?_; conv => whnf) | (refine CallVC.auto bsum_k ⟨T, rfl, rfl, rfl, rfl, hxl n, ?_⟩; conv => whnf) | (exact Out.same; conv => whnf) | (exact Out1.same; conv => whnf) | (refine QAnd.mk ?_ ?_; conv => whnf) | (apply QStepH.go; conv => whnf) | (refine Both.lit_true ?_; conv => whnf) | (refine Both.lit_false ?_; conv => whnf) | (apply QStep.go; conv => whnf) | (refine Need.mk ?_ ?_; (focus (first | omega | exact ⟨by omega, by omega⟩ | rfl | exact ⟨rfl, rfl⟩ | exact ⟨rfl, by omega, by omega⟩ | exact ⟨by omega, by omega, by omega⟩ | exact ⟨rfl, Nat.le_of_ble_eq_true rfl⟩ | exact Nat.le_of_ble_eq_true rfl | (refine ⟨rfl, rfl, ?_⟩; simp [isFar, ofV0, CV.up, SV.renL, SV.ren] <;> fail) | (refine ⟨rfl, Nat.le_of_ble_eq_true rfl, ?_⟩; simp [isFar, ofV0, CV.up, SV.renL, SV.ren] <;> fail) | (simp only [List.length_append, List.length_drop, List.length_take, List.length_replicate, List.length_map]; omega) | (simp <;> fail))); conv => whnf) | (refine ⟨_, rfl, ?_⟩; conv => whnf)))
    refine ⟨_, _, WeakV.auto ?_, h⟩
    (repeat' ((conv => whnf); first | exact True.intro | (refine And.intro ?_ ?_)))
    all_goals first | rfl | exact .eq rfl
theorem rtop_k : Contract Tryd.prog [] 18 rtopS := ⟨⟨⟨_, rfl, rfl, rfl⟩⟩, rtop_c⟩
end Go.LX
end
section
set_option maxRecDepth 100000
set_option maxHeartbeats 1000000
set_option autoImplicit false
set_option linter.unusedVariables false
set_option linter.unusedSimpArgs false
namespace Go.LX
open Go.Proofs

/-! ## No clash: one digest, one text -/
def NoC (U : List Bs) : Prop := ∀ s ∈ U, ∀ t ∈ U, shaD s = shaD t → s = t
theorem noc_of {T : List Bs} (h : bcl T = false) : NoC T := fun s hs t ht e => bcl_inj h hs ht e
def short (p : Pr) : Prop := p.1.length < 256 ∧ p.2.length < 256
theorem u8_inj {a b : Nat} (ha : a < 256) (hb : b < 256) (h : UInt8.ofNat a = UInt8.ofNat b) : a = b := by
  have := congrArg UInt8.toNat h
  rw [UInt8.toNat_ofNat', UInt8.toNat_ofNat'] at this
  omega
theorem leaf_inj {p q : Pr} (hp : short p) (hq : short q) (h : txLeaf p = txLeaf q) : p = q := by
  have e : ∀ p : Pr, txLeaf p = 0 :: UInt8.ofNat p.1.length :: (p.1 ++ UInt8.ofNat p.2.length :: p.2) := fun p => by simp [txLeaf]
  rw [e, e] at h
  have h1 := (List.cons.inj h).2
  have h2 := (List.cons.inj h1).2
  have e1 := u8_inj hp.1 hq.1 (List.cons.inj h1).1
  obtain ⟨h3, h4⟩ := List.append_inj h2 e1
  exact Prod.ext h3 (List.cons.inj h4).2
theorem dgT_mem : ∀ (m : Nat) (l : List Pr) (T : List Bs), l.length ≤ m → ∀ x, x ∈ dgT l T ↔ x ∈ dgT l [] ∨ x ∈ T
  | 0, l, T, hm, x => by
    rw [dgT_one (by omega), dgT_one (by omega)]
    simp
  | m + 1, l, T, hm, x => by
    by_cases h : l.length ≤ 1
    · rw [dgT_one h, dgT_one h]
      simp
    · have hlt := lft_lt (n := l.length) (by omega)
      have hpos := lft_pos l.length
      have e1 : (l.take (lft l.length)).length ≤ m := by rw [List.length_take]; omega
      have e2 : (l.drop (lft l.length)).length ≤ m := by rw [List.length_drop]; omega
      rw [dgT_two h, dgT_two h, List.mem_cons, List.mem_cons, dgT_mem m _ (dgT _ T) e2, dgT_mem m _ (dgT _ []) e2, dgT_mem m _ T e1, dgT_mem m _ [] e1]
      simp only [List.not_mem_nil, or_false]
      constructor
      · rintro (h1 | h1 | h1 | h1)
        · exact .inl (.inl h1)
        · exact .inl (.inr (.inl h1))
        · exact .inl (.inr (.inr h1))
        · exact .inr h1
      · rintro ((h1 | h1 | h1) | h1)
        · exact .inl h1
        · exact .inr (.inl h1)
        · exact .inr (.inr (.inl h1))
        · exact .inr (.inr (.inr h1))
theorem dg_parts {l : List Pr} (h : ¬ l.length ≤ 1) {U : List Bs} (hU : ∀ x ∈ dgT l [], x ∈ U) :
    ([1] ++ dgP (l.take (lft l.length)) ++ dgP (l.drop (lft l.length))) ∈ U ∧ (∀ x ∈ dgT (l.take (lft l.length)) [], x ∈ U) ∧ (∀ x ∈ dgT (l.drop (lft l.length)) [], x ∈ U) := by
  rw [dgT_two h] at hU
  refine ⟨hU _ List.mem_cons_self, fun x hx => ?_, fun x hx => ?_⟩
  · refine hU x (List.mem_cons_of_mem _ ?_)
    exact (dgT_mem _ _ _ (Nat.le_refl _) x).2 (.inr hx)
  · refine hU x (List.mem_cons_of_mem _ ?_)
    exact (dgT_mem _ _ _ (Nat.le_refl _) x).2 (.inl hx)
theorem two_inj {a b c d : Bs} (hl : a.length = c.length) (h : ([1] : Bs) ++ a ++ b = [1] ++ c ++ d) : a = c ∧ b = d := by
  rw [List.append_assoc, List.append_assoc] at h
  exact List.append_inj (List.append_cancel_left h) hl
theorem getD_pair (l : List Pr) (h : l.length = 1) : l = [l.getD 0 ([], [])] := by
  match l, h with
  | [p], _ => rfl
theorem dg_inj {U : List Bs} (hU : NoC U) : ∀ (m : Nat) (l l' : List Pr), l.length ≤ m → 0 < l.length → l.length = l'.length → (∀ x ∈ dgT l [], x ∈ U) → (∀ x ∈ dgT l' [], x ∈ U) →
    (∀ p ∈ l, short p) → (∀ p ∈ l', short p) → dgP l = dgP l' → l = l'
  | 0, l, l', hm, h0, _, _, _, _, _, _ => by omega
  | m + 1, l, l', hm, h0, hl, h1, h2, s1, s2, he => by
    by_cases h : l.length ≤ 1
    · have e1 : l.length = 1 := by omega
      have e2 : l'.length = 1 := by omega
      rw [dgP_one h, dgP_one (by omega)] at he
      have ht := hU _ (h1 _ (by rw [dgT_one h]; exact List.mem_cons_self)) _ (h2 _ (by rw [dgT_one (by omega)]; exact List.mem_cons_self)) he
      rw [getD_pair l e1] at s1
      rw [getD_pair l' e2] at s2
      have := leaf_inj (s1 _ List.mem_cons_self) (s2 _ List.mem_cons_self) ht
      rw [getD_pair l e1, getD_pair l' e2, this]
    · have h' : ¬ l'.length ≤ 1 := by omega
      have hlt := lft_lt (n := l.length) (by omega)
      have hpos := lft_pos l.length
      obtain ⟨a1, a2, a3⟩ := dg_parts h h1
      obtain ⟨b1, b2, b3⟩ := dg_parts h' h2
      rw [dgP_two h, dgP_two h'] at he
      have ht := hU _ a1 _ b1 he
      obtain ⟨t1, t2⟩ := two_inj (by rw [dgP_len, dgP_len]) ht
      rw [← hl] at t1 t2 b2 b3
      have q1 := dg_inj hU m (l.take (lft l.length)) (l'.take (lft l.length)) (by rw [List.length_take]; omega) (by rw [List.length_take]; omega) (by rw [List.length_take, List.length_take]; omega) a2 b2
        (fun p hp => s1 p (List.mem_of_mem_take hp)) (fun p hp => s2 p (List.mem_of_mem_take hp)) t1
      have q2 := dg_inj hU m (l.drop (lft l.length)) (l'.drop (lft l.length)) (by rw [List.length_drop]; omega) (by rw [List.length_drop]; omega) (by rw [List.length_drop, List.length_drop]; omega) a3 b3
        (fun p hp => s1 p (List.mem_of_mem_drop hp)) (fun p hp => s2 p (List.mem_of_mem_drop hp)) t2
      rw [← List.take_append_drop (lft l.length) l, q1, q2, List.take_append_drop]
theorem upT_mem (lf : Bs) (path : List Bs) : ∀ (m i n : Nat) (T : List Bs), n ≤ m → ∀ x, x ∈ upT lf path i n T ↔ x ∈ upT lf path i n [] ∨ x ∈ T
  | 0, i, n, T, hm, x => by
    rw [upT_one (by omega), upT_one (by omega)]
    simp
  | m + 1, i, n, T, hm, x => by
    by_cases h : n ≤ 1
    · rw [upT_one h, upT_one h]
      simp
    · have hlt := lft_lt (n := n) (by omega)
      have hpos := lft_pos n
      rw [upT_two h, upT_two h]
      by_cases hi : i < lft n
      · rw [if_pos hi, if_pos hi, List.mem_cons, List.mem_cons, upT_mem lf path m i (lft n) T (by omega), or_assoc]
      · rw [if_neg hi, if_neg hi, List.mem_cons, List.mem_cons, upT_mem lf path m (i - lft n) (n - lft n) T (by omega), or_assoc]
theorem up_leaf {U : List Bs} (hU : NoC U) (lf : Bs) (path : List Bs) (h32 : ∀ s ∈ path, s.length = 32) : ∀ (m : Nat) (l : List Pr) (i : Nat), l.length ≤ m → i < l.length → depP i l.length ≤ path.length →
    (∀ x ∈ dgT l [], x ∈ U) → (∀ x ∈ upT lf path i l.length [], x ∈ U) → upD lf path i l.length = dgP l → lf = txLeaf (l.getD i ([], []))
  | 0, l, i, hm, hi, _, _, _, _ => by omega
  | m + 1, l, i, hm, hil, hd, h1, h2, he => by
    by_cases h : l.length ≤ 1
    · have hi0 : i = 0 := by omega
      rw [upD_one h, dgP_one h] at he
      rw [hi0]
      exact hU _ (h2 _ (by rw [upT_one h]; exact List.mem_cons_self)) _ (h1 _ (by rw [dgT_one h]; exact List.mem_cons_self)) he
    · have hlt := lft_lt (n := l.length) (by omega)
      have hpos := lft_pos l.length
      have e1 : (l.take (lft l.length)).length = lft l.length := by rw [List.length_take]; omega
      have e2 : (l.drop (lft l.length)).length = l.length - lft l.length := List.length_drop
      obtain ⟨a1, a2, a3⟩ := dg_parts h h1
      rw [upD_two h, dgP_two h] at he
      rw [upT_two h] at h2
      have hd' := hd
      rw [depP_two h] at hd
      by_cases hi : i < lft l.length
      · rw [if_pos hi] at he h2 hd
        have ht := hU _ (h2 _ List.mem_cons_self) _ a1 he
        obtain ⟨t1, t2⟩ := two_inj (by rw [upD_len, dgP_len]) ht
        have hg : l.getD i ([], []) = (l.take (lft l.length)).getD i ([], []) := by
          rw [List.getD_eq_getElem?_getD, List.getD_eq_getElem?_getD, List.getElem?_take, if_pos hi]
        rw [hg]
        exact up_leaf hU lf path h32 m (l.take (lft l.length)) i (by omega) (by omega) (by rw [e1]; omega) a2 (fun x hx => h2 x (List.mem_cons_of_mem _ (by rw [e1] at hx; exact hx))) (by rw [e1]; exact t1)
      · rw [if_neg hi] at he h2 hd
        have hp32 : (path.getD (depP i l.length - 1) []).length = 32 := by
          rw [depP_two h, if_neg hi, List.getD_eq_getElem?_getD, List.getElem?_eq_getElem (show 1 + depP (i - lft l.length) (l.length - lft l.length) - 1 < path.length by omega)]
          exact h32 _ (List.getElem_mem _)
        have ht := hU _ (h2 _ List.mem_cons_self) _ a1 he
        obtain ⟨t1, t2⟩ := two_inj (by rw [hp32, dgP_len]) ht
        have hg : l.getD i ([], []) = (l.drop (lft l.length)).getD (i - lft l.length) ([], []) := by
          rw [List.getD_eq_getElem?_getD, List.getD_eq_getElem?_getD, List.getElem?_drop]
          congr 2
          omega
        rw [hg]
        exact up_leaf hU lf path h32 m (l.drop (lft l.length)) (i - lft l.length) (by omega) (by omega) (by rw [e2]; omega) a3 (fun x hx => h2 x (List.mem_cons_of_mem _ (by rw [e2] at hx; exact hx))) (by rw [e2]; exact t2)
/-! ### Tops -/
theorem top_inj {c c' : Nat} {d d' : Bs} (hc : c < 256 ^ 8) (hc' : c' < 256 ^ 8) (h : topX c d = topX c' d') : c = c' ∧ d = d' := by
  unfold topX at h
  rw [List.append_assoc, List.append_assoc] at h
  obtain ⟨h1, h2⟩ := List.append_inj (List.append_cancel_left h) (by rw [beb_length, beb_length])
  exact ⟨beb_inj hc hc' h1, h2⟩
theorem rootT_mem (l : List Pr) (T : List Bs) : (∀ x, x ∈ rootT l T ↔ x ∈ rootT l [] ∨ x ∈ T) ∧ rootX l ∈ rootT l [] ∧ (0 < l.length → ∀ x ∈ dgT l [], x ∈ rootT l []) := by
  unfold rootT rootX
  by_cases h : l.length = 0
  · rw [if_pos h, if_pos h, if_pos h]
    exact ⟨fun x => by simp, List.mem_cons_self, fun h9 => by omega⟩
  · rw [if_neg h, if_neg h, if_neg h]
    refine ⟨fun x => ?_, List.mem_cons_self, fun _ x hx => List.mem_cons_of_mem _ hx⟩
    rw [List.mem_cons, List.mem_cons, dgT_mem _ l T (Nat.le_refl _), or_assoc]
/-- Two maps of one root are one map, or the book tells a clash. -/
theorem root_inj {l l' : List Pr} (s1 : ∀ p ∈ l, short p) (s2 : ∀ p ∈ l', short p) (b1 : l.length < 256 ^ 8) (b2 : l'.length < 256 ^ 8) (hc : bcl (rootT l' (rootT l [])) = false) (h : shaD (rootX l) = shaD (rootX l')) : l = l' := by
  have hU := noc_of hc
  have m1 := rootT_mem l []
  have m2 := rootT_mem l' (rootT l [])
  have u1 : ∀ x ∈ rootT l [], x ∈ rootT l' (rootT l []) := fun x hx => (m2.1 x).2 (.inr hx)
  have u2 : ∀ x ∈ rootT l' [], x ∈ rootT l' (rootT l []) := fun x hx => (m2.1 x).2 (.inl hx)
  have ht := hU _ (u1 _ m1.2.1) _ (u2 _ m2.2.1) h
  unfold rootX at ht
  by_cases h0 : l.length = 0
  · rw [if_pos h0] at ht
    by_cases h0' : l'.length = 0
    · rw [List.eq_nil_of_length_eq_zero h0, List.eq_nil_of_length_eq_zero h0']
    · rw [if_neg h0'] at ht
      exact absurd (top_inj (by decide) b2 ht).1 (by omega)
  · rw [if_neg h0] at ht
    by_cases h0' : l'.length = 0
    · rw [if_pos h0'] at ht
      exact absurd (top_inj b1 (by decide) ht).1 (by omega)
    · rw [if_neg h0'] at ht
      obtain ⟨e1, e2⟩ := top_inj b1 b2 ht
      exact dg_inj hU _ l l' (Nat.le_refl _) (by omega) e1 (fun x hx => u1 x (m1.2.2 (by omega) x hx)) (fun x hx => u2 x (m2.2.2 (by omega) x hx)) s1 s2 e2
end Go.LX
end
section
set_option maxRecDepth 100000
set_option maxHeartbeats 2000000
set_option autoImplicit false
set_option linter.unusedVariables false
set_option linter.unusedSimpArgs false
namespace Go.LX
open Go.Proofs

def rdgS (m : Nat) : Spec := fun args H Q => match args with
  | [.ptr 0 0, .sl 2 n cs f] => inB H fun T => ∃ l : List Pr, n = l.length ∧ cs = flP l ∧ 0 < l.length ∧ l.length ≤ m ∧ l.length < 60000 ∧ (∀ p ∈ l, okP p) ∧ Q (.str (dgP l)) (bkO (dgT l T))
  | _ => False
theorem rdg_c : ∀ m, Meets Tryd.prog [] 29 (rdgS m)
  | 0 => by
    intro args H Q h
    unfold rdgS at h
    split at h
    case h_2 => exact h.elim
    obtain ⟨T, rfl, l, _, _, h1, h2, _⟩ := inB_out h
    omega
  | m + 1 => by
    have ih : Contract Tryd.prog [] 29 (rdgS m) := ⟨⟨⟨_, rfl, rfl, rfl⟩⟩, rdg_c m⟩
    refine meets_of Γok Tryd.func29 rfl ?_
    intro args H Q h
    unfold rdgS at h
    split at h
    case h_2 => exact h.elim
    rename_i n cs f
    obtain ⟨T, rfl, l, rfl, rfl, h0, hm, h60, hok, h⟩ := inB_out h
    (refine sx_sound Γok _ ?_; conv => whnf)
    (repeat (first | (exact Out.same; conv => whnf) | (exact Out1.same; conv => whnf) | (refine QAnd.mk ?_ ?_; conv => whnf) | (apply QStepH.go; conv => whnf) | (refine Both.lit_true ?_; conv => whnf) | (refine Both.lit_false ?_; conv => whnf) | (apply QStep.go; conv => whnf) | (refine Need.mk ?_ ?_; (focus (first | omega | exact ⟨by omega, by omega⟩ | rfl | exact ⟨rfl, rfl⟩ | exact ⟨rfl, by omega, by omega⟩ | exact ⟨by omega, by omega, by omega⟩ | exact ⟨rfl, Nat.le_of_ble_eq_true rfl⟩ | exact Nat.le_of_ble_eq_true rfl | (refine ⟨rfl, rfl, ?_⟩; simp [isFar, ofV0, CV.up, SV.renL, SV.ren] <;> fail) | (refine ⟨rfl, Nat.le_of_ble_eq_true rfl, ?_⟩; simp [isFar, ofV0, CV.up, SV.renL, SV.ren] <;> fail) | (simp only [List.length_append, List.length_drop, List.length_take, List.length_replicate, List.length_map]; omega) | (simp <;> fail))); conv => whnf) | (refine ⟨_, rfl, ?_⟩; conv => whnf)))
    refine Both.dec (fun hone => ?_) (fun hmore => ?_)
    · have hl1 : l.length ≤ 1 := by omega
      have hat := flP_at l (k := 0) (by omega)
      have hp := hok (l.getD 0 ([], [])) (by rw [List.getD_eq_getElem?_getD, List.getElem?_eq_getElem (by omega)]; exact List.getElem_mem _)
      rw [dgP_one hl1, dgT_one hl1] at h
      have hin : ti27.size = 2 ∧ (0 : Int) ≤ 0 ∧ (0 : Int) < ((l.length : Nat) : Int) := ⟨rfl, by omega, by omega⟩
      revert hat hp h
      generalize l.getD 0 ([], []) = p
      obtain ⟨k, v⟩ := p
      intro h hat hp
      (conv => whnf)
      (repeat (first | (refine Need.mk hin ?_; conv => whnf) | (refine ⟨_, hat, ?_⟩; conv => whnf) | (exact Out.same; conv => whnf) | (exact Out1.same; conv => whnf) | (refine QAnd.mk ?_ ?_; conv => whnf) | (apply QStepH.go; conv => whnf) | (refine Both.lit_true ?_; conv => whnf) | (refine Both.lit_false ?_; conv => whnf) | (apply QStep.go; conv => whnf) | (refine Need.mk ?_ ?_; (focus (first | omega | exact ⟨by omega, by omega⟩ | rfl | exact ⟨rfl, rfl⟩ | exact ⟨rfl, by omega, by omega⟩ | exact ⟨by omega, by omega, by omega⟩ | exact ⟨rfl, Nat.le_of_ble_eq_true rfl⟩ | exact Nat.le_of_ble_eq_true rfl | (refine ⟨rfl, rfl, ?_⟩; simp [isFar, ofV0, CV.up, SV.renL, SV.ren] <;> fail) | (refine ⟨rfl, Nat.le_of_ble_eq_true rfl, ?_⟩; simp [isFar, ofV0, CV.up, SV.renL, SV.ren] <;> fail) | (simp only [List.length_append, List.length_drop, List.length_take, List.length_replicate, List.length_map]; omega) | (simp <;> fail))); conv => whnf) | (refine ⟨_, rfl, ?_⟩; conv => whnf)))
      refine CallVC.auto rleaf_k (inB_mk ⟨hp.1, hp.2, ?_⟩)
      (conv => whnf)
      (repeat (first | (exact Out.same; conv => whnf) | (exact Out1.same; conv => whnf) | (refine QAnd.mk ?_ ?_; conv => whnf) | (apply QStepH.go; conv => whnf) | (refine Both.lit_true ?_; conv => whnf) | (refine Both.lit_false ?_; conv => whnf) | (apply QStep.go; conv => whnf) | (refine Need.mk ?_ ?_; (focus (first | omega | exact ⟨by omega, by omega⟩ | rfl | exact ⟨rfl, rfl⟩ | exact ⟨rfl, by omega, by omega⟩ | exact ⟨by omega, by omega, by omega⟩ | exact ⟨rfl, Nat.le_of_ble_eq_true rfl⟩ | exact Nat.le_of_ble_eq_true rfl | (refine ⟨rfl, rfl, ?_⟩; simp [isFar, ofV0, CV.up, SV.renL, SV.ren] <;> fail) | (refine ⟨rfl, Nat.le_of_ble_eq_true rfl, ?_⟩; simp [isFar, ofV0, CV.up, SV.renL, SV.ren] <;> fail) | (simp only [List.length_append, List.length_drop, List.length_take, List.length_replicate, List.length_map]; omega) | (simp <;> fail))); conv => whnf) | (refine ⟨_, rfl, ?_⟩; conv => whnf)))
      refine ⟨_, _, WeakV.auto ?_, h⟩
      (repeat' ((conv => whnf); first | exact True.intro | (refine And.intro ?_ ?_)))
      all_goals first | rfl | exact .eq rfl
    · have hn1 : ¬ l.length ≤ 1 := by omega
      have hlt := lft_lt (n := l.length) (by omega)
      have hpos := lft_pos l.length
      rw [dgP_two hn1, dgT_two hn1] at h
      have hcl := cut_lo l (k := lft l.length) (by omega)
      have hch := cut_hi l (k := lft l.length) (by omega)
      have l1 : (l.take (lft l.length)).length = lft l.length := by rw [List.length_take]; omega
      have l2 : (l.drop (lft l.length)).length = l.length - lft l.length := List.length_drop
      have d1 := dgP_len (l.take (lft l.length))
      have d2 := dgP_len (l.drop (lft l.length))
      have o1 : ∀ p ∈ l.take (lft l.length), okP p := fun p hp => hok p (List.mem_of_mem_take hp)
      have o2 : ∀ p ∈ l.drop (lft l.length), okP p := fun p hp => hok p (List.mem_of_mem_drop hp)
      revert h hlt hpos hcl hch l1 l2 d1 d2 o1 o2
      generalize hg : lft l.length = g
      generalize ha : l.take g = la
      generalize hb : l.drop g = lb
      intro h hlt hpos hcl hch l1 l2 d1 d2 o1 o2
      have c1 : ti27.size = 2 ∧ (0 : Int) ≤ 0 ∧ (0 : Int) ≤ ((g : Nat) : Int) ∧ ((g : Nat) : Int) ≤ ((l.length : Nat) : Int) := ⟨rfl, by omega, by omega, by omega⟩
      have c2 : ti27.size = 2 ∧ 0 ≤ ((g : Nat) : Int) ∧ ((g : Nat) : Int) ≤ ((l.length : Nat) : Int) ∧ ((l.length : Nat) : Int) ≤ ((l.length : Nat) : Int) := ⟨rfl, by omega, by omega, by omega⟩
      have n1 : ((g : Nat) : Int).toNat - (0 : Int).toNat = la.length := by rw [l1]; rfl
      have n2 : ((l.length : Nat) : Int).toNat - ((g : Nat) : Int).toNat = lb.length := by rw [l2]; rfl
      have nb : la.length ≤ m ∧ 0 < la.length ∧ la.length < 60000 ∧ lb.length ≤ m ∧ 0 < lb.length ∧ lb.length < 60000 := by omega
      obtain ⟨b1, b2, b3, b4, b5, b6⟩ := nb
      have s1 : ([1] : Bs).length + (dgP la).length ≤ 9223372036854775807 := by rw [d1]; decide
      have s2 : ([1] ++ dgP la : Bs).length + (dgP lb).length ≤ 9223372036854775807 := by rw [List.length_append, d1, d2]; decide
      have s3 : ([1] ++ dgP la ++ dgP lb : Bs).length < 900000 := by rw [List.length_append, List.length_append, d1, d2]; decide
      (conv => whnf)
      (repeat (first | (exact Out.same; conv => whnf) | (exact Out1.same; conv => whnf) | (refine QAnd.mk ?_ ?_; conv => whnf) | (apply QStepH.go; conv => whnf) | (refine Both.lit_true ?_; conv => whnf) | (refine Both.lit_false ?_; conv => whnf) | (apply QStep.go; conv => whnf) | (refine Need.mk ?_ ?_; (focus (first | omega | exact ⟨by omega, by omega⟩ | rfl | exact ⟨rfl, rfl⟩ | exact ⟨rfl, by omega, by omega⟩ | exact ⟨by omega, by omega, by omega⟩ | exact ⟨rfl, Nat.le_of_ble_eq_true rfl⟩ | exact Nat.le_of_ble_eq_true rfl | (refine ⟨rfl, rfl, ?_⟩; simp [isFar, ofV0, CV.up, SV.renL, SV.ren] <;> fail) | (refine ⟨rfl, Nat.le_of_ble_eq_true rfl, ?_⟩; simp [isFar, ofV0, CV.up, SV.renL, SV.ren] <;> fail) | (simp only [List.length_append, List.length_drop, List.length_take, List.length_replicate, List.length_map]; omega) | (simp <;> fail))); conv => whnf) | (refine ⟨_, rfl, ?_⟩; conv => whnf)))
      refine CallVC.auto rlft_k ⟨l.length, rfl, by omega, by omega, ?_⟩
      rw [hg]
      (conv => whnf)
      (refine DrawVC.any Γok (by kernel_rfl) (by kernel_rfl) (by kernel_rfl) (by rfl) ?_; conv => whnf)
      (repeat (first | (refine Need.mk c1 ?_; conv => whnf) | (refine Need.mk c2 ?_; conv => whnf) | (refine CallVC.auto ih (inB_mk ⟨la, n1, hcl, b2, b1, b3, o1, ?_⟩); conv => whnf) | (refine CallVC.auto ih (inB_mk ⟨lb, n2, hch, b5, b4, b6, o2, ?_⟩); conv => whnf) | (refine Need.mk s1 ?_; conv => whnf) | (refine Need.mk s2 ?_; conv => whnf) | (refine CallVC.auto bsum_k (inB_mk ⟨s3, ?_⟩); conv => whnf) | (exact Out.same; conv => whnf) | (exact Out1.same; conv => whnf) | (refine QAnd.mk ?_ ?_; conv => whnf) | (apply QStepH.go; conv => whnf) | (refine Both.lit_true ?_; conv => whnf) | (refine Both.lit_false ?_; conv => whnf) | (apply QStep.go; conv => whnf) | (refine Need.mk ?_ ?_; (focus (first | omega | exact ⟨by omega, by omega⟩ | rfl | exact ⟨rfl, rfl⟩ | exact ⟨rfl, by omega, by omega⟩ | exact ⟨by omega, by omega, by omega⟩ | exact ⟨rfl, Nat.le_of_ble_eq_true rfl⟩ | exact Nat.le_of_ble_eq_true rfl | (refine ⟨rfl, rfl, ?_⟩; simp [isFar, ofV0, CV.up, SV.renL, SV.ren] <;> fail) | (refine ⟨rfl, Nat.le_of_ble_eq_true rfl, ?_⟩; simp [isFar, ofV0, CV.up, SV.renL, SV.ren] <;> fail) | (simp only [List.length_append, List.length_drop, List.length_take, List.length_replicate, List.length_map]; omega) | (simp <;> fail))); conv => whnf) | (refine ⟨_, rfl, ?_⟩; conv => whnf)))
      refine ⟨_, _, WeakV.auto ?_, h⟩
      (repeat' ((conv => whnf); first | exact True.intro | (refine And.intro ?_ ?_)))
      all_goals first | rfl | exact .eq rfl
theorem rdg_k (m : Nat) : Contract Tryd.prog [] 29 (rdgS m) := ⟨⟨⟨_, rfl, rfl, rfl⟩⟩, rdg_c m⟩
def rrootS : Spec := fun args H Q => match args with
  | [.ptr 0 0, .sl 2 n cs f] => inB H fun T => ∃ l : List Pr, n = l.length ∧ cs = flP l ∧ l.length < 60000 ∧ (∀ p ∈ l, okP p) ∧ Q (.str (shaD (rootX l))) (bkO (rootT l T))
  | _ => False
theorem rroot_c : Meets Tryd.prog [] 14 rrootS := by
  refine meets_of Γok Tryd.func14 rfl ?_
  intro args H Q h
  unfold rrootS at h
  split at h
  case h_2 => exact h.elim
  rename_i n cs f
  obtain ⟨T, rfl, l, rfl, rfl, h60, hok, h⟩ := inB_out h
  (refine sx_sound Γok _ ?_; conv => whnf)
  (repeat (first | (exact Out.same; conv => whnf) | (exact Out1.same; conv => whnf) | (refine QAnd.mk ?_ ?_; conv => whnf) | (apply QStepH.go; conv => whnf) | (refine Both.lit_true ?_; conv => whnf) | (refine Both.lit_false ?_; conv => whnf) | (apply QStep.go; conv => whnf) | (refine Need.mk ?_ ?_; (focus (first | omega | exact ⟨by omega, by omega⟩ | rfl | exact ⟨rfl, rfl⟩ | exact ⟨rfl, by omega, by omega⟩ | exact ⟨by omega, by omega, by omega⟩ | exact ⟨rfl, Nat.le_of_ble_eq_true rfl⟩ | exact Nat.le_of_ble_eq_true rfl | (refine ⟨rfl, rfl, ?_⟩; simp [isFar, ofV0, CV.up, SV.renL, SV.ren] <;> fail) | (refine ⟨rfl, Nat.le_of_ble_eq_true rfl, ?_⟩; simp [isFar, ofV0, CV.up, SV.renL, SV.ren] <;> fail) | (simp only [List.length_append, List.length_drop, List.length_take, List.length_replicate, List.length_map]; omega) | (simp <;> fail))); conv => whnf) | (refine ⟨_, rfl, ?_⟩; conv => whnf)))
  refine Both.dec (fun hz => ?_) (fun hnz => ?_)
  · have hl0 : l.length = 0 := by omega
    unfold rootX rootT at h
    rw [if_pos hl0, if_pos hl0] at h
    (conv => whnf)
    (repeat (first | (exact Out.same; conv => whnf) | (exact Out1.same; conv => whnf) | (refine QAnd.mk ?_ ?_; conv => whnf) | (apply QStepH.go; conv => whnf) | (refine Both.lit_true ?_; conv => whnf) | (refine Both.lit_false ?_; conv => whnf) | (apply QStep.go; conv => whnf) | (refine Need.mk ?_ ?_; (focus (first | omega | exact ⟨by omega, by omega⟩ | rfl | exact ⟨rfl, rfl⟩ | exact ⟨rfl, by omega, by omega⟩ | exact ⟨by omega, by omega, by omega⟩ | exact ⟨rfl, Nat.le_of_ble_eq_true rfl⟩ | exact Nat.le_of_ble_eq_true rfl | (refine ⟨rfl, rfl, ?_⟩; simp [isFar, ofV0, CV.up, SV.renL, SV.ren] <;> fail) | (refine ⟨rfl, Nat.le_of_ble_eq_true rfl, ?_⟩; simp [isFar, ofV0, CV.up, SV.renL, SV.ren] <;> fail) | (simp only [List.length_append, List.length_drop, List.length_take, List.length_replicate, List.length_map]; omega) | (simp <;> fail))); conv => whnf) | (refine ⟨_, rfl, ?_⟩; conv => whnf)))
    refine CallVC.auto rtop_k (inB_mk ⟨by decide, by decide, by decide, ?_⟩)
    (conv => whnf)
    (repeat (first | (exact Out.same; conv => whnf) | (exact Out1.same; conv => whnf) | (refine QAnd.mk ?_ ?_; conv => whnf) | (apply QStepH.go; conv => whnf) | (refine Both.lit_true ?_; conv => whnf) | (refine Both.lit_false ?_; conv => whnf) | (apply QStep.go; conv => whnf) | (refine Need.mk ?_ ?_; (focus (first | omega | exact ⟨by omega, by omega⟩ | rfl | exact ⟨rfl, rfl⟩ | exact ⟨rfl, by omega, by omega⟩ | exact ⟨by omega, by omega, by omega⟩ | exact ⟨rfl, Nat.le_of_ble_eq_true rfl⟩ | exact Nat.le_of_ble_eq_true rfl | (refine ⟨rfl, rfl, ?_⟩; simp [isFar, ofV0, CV.up, SV.renL, SV.ren] <;> fail) | (refine ⟨rfl, Nat.le_of_ble_eq_true rfl, ?_⟩; simp [isFar, ofV0, CV.up, SV.renL, SV.ren] <;> fail) | (simp only [List.length_append, List.length_drop, List.length_take, List.length_replicate, List.length_map]; omega) | (simp <;> fail))); conv => whnf) | (refine ⟨_, rfl, ?_⟩; conv => whnf)))
    refine ⟨_, _, WeakV.auto ?_, h⟩
    (repeat' ((conv => whnf); first | exact True.intro | (refine And.intro ?_ ?_)))
    all_goals first | rfl | exact .eq rfl
  · have hl0 : ¬ l.length = 0 := by omega
    unfold rootX rootT at h
    rw [if_neg hl0, if_neg hl0] at h
    have hd := dgP_len l
    have hc : -9223372036854775808 ≤ ((l.length : Nat) : Int) := by omega
    have hc2 : ((l.length : Nat) : Int) ≤ 9223372036854775807 := by omega
    have hc3 : (dgP l).length < 50000 := by omega
    (conv => whnf)
    (repeat (first | (refine CallVC.auto (rdg_k l.length) (inB_mk ⟨l, rfl, rfl, by omega, Nat.le_refl _, h60, hok, ?_⟩); conv => whnf) | (refine CallVC.auto rtop_k (inB_mk ⟨hc, hc2, hc3, ?_⟩); conv => whnf) | (exact Out.same; conv => whnf) | (exact Out1.same; conv => whnf) | (refine QAnd.mk ?_ ?_; conv => whnf) | (apply QStepH.go; conv => whnf) | (refine Both.lit_true ?_; conv => whnf) | (refine Both.lit_false ?_; conv => whnf) | (apply QStep.go; conv => whnf) | (refine Need.mk ?_ ?_; (focus (first | omega | exact ⟨by omega, by omega⟩ | rfl | exact ⟨rfl, rfl⟩ | exact ⟨rfl, by omega, by omega⟩ | exact ⟨by omega, by omega, by omega⟩ | exact ⟨rfl, Nat.le_of_ble_eq_true rfl⟩ | exact Nat.le_of_ble_eq_true rfl | (refine ⟨rfl, rfl, ?_⟩; simp [isFar, ofV0, CV.up, SV.renL, SV.ren] <;> fail) | (refine ⟨rfl, Nat.le_of_ble_eq_true rfl, ?_⟩; simp [isFar, ofV0, CV.up, SV.renL, SV.ren] <;> fail) | (simp only [List.length_append, List.length_drop, List.length_take, List.length_replicate, List.length_map]; omega) | (simp <;> fail))); conv => whnf) | (refine ⟨_, rfl, ?_⟩; conv => whnf)))
    refine ⟨_, _, WeakV.auto ?_, h⟩
    (repeat' ((conv => whnf); first | exact True.intro | (refine And.intro ?_ ?_)))
    all_goals first | rfl | exact .eq rfl
theorem rroot_k : Contract Tryd.prog [] 14 rrootS := ⟨⟨⟨_, rfl, rfl, rfl⟩⟩, rroot_c⟩
/-! ## Paths -/
def strs (l : List Bs) : List CV := l.map CV.str
theorem strs_app (l m : List Bs) : strs l ++ strs m = strs (l ++ m) := by rw [strs, strs, strs, List.map_append]
def rpathS (m : Nat) : Spec := fun args H Q => match args with
  | [.ptr 0 0, .sl 2 n cs f, .int .i64 x] => inB H fun T => ∃ (l : List Pr) (i : Nat), n = l.length ∧ cs = flP l ∧ x = i ∧ i < l.length ∧ l.length ≤ m ∧ l.length < 60000 ∧ (∀ p ∈ l, okP p) ∧
      Q (.own 2) (bkO (pathT l i T) ++ [.own 9 1 (pathP l i).length (strs (pathP l i)) true])
  | _ => False
theorem rpath_c : ∀ m, Meets Tryd.prog [] 23 (rpathS m)
  | 0 => by
    intro args H Q h
    unfold rpathS at h
    split at h
    case h_2 => exact h.elim
    obtain ⟨T, rfl, l, i, _, _, _, h1, h2, _⟩ := inB_out h
    omega
  | m + 1 => by
    have ih : Contract Tryd.prog [] 23 (rpathS m) := ⟨⟨⟨_, rfl, rfl, rfl⟩⟩, rpath_c m⟩
    refine meets_of Γok Tryd.func23 rfl ?_
    intro args H Q h
    unfold rpathS at h
    split at h
    case h_2 => exact h.elim
    rename_i n cs f x
    obtain ⟨T, rfl, l, i, rfl, rfl, rfl, hil, hm, h60, hok, h⟩ := inB_out h
    have g0 : decide ((i : Int) < 0) = false := by rw [decide_eq_false_iff_not]; omega
    have g1 : decide (((l.length : Nat) : Int) ≤ (i : Int)) = false := by rw [decide_eq_false_iff_not]; omega
    (refine sx_sound Γok _ ?_; conv => whnf)
    (repeat (first | (refine Both.of_false g0 ?_; conv => whnf) | (refine Both.of_false g1 ?_; conv => whnf) | (exact Out.same; conv => whnf) | (exact Out1.same; conv => whnf) | (refine QAnd.mk ?_ ?_; conv => whnf) | (apply QStepH.go; conv => whnf) | (refine Both.lit_true ?_; conv => whnf) | (refine Both.lit_false ?_; conv => whnf) | (apply QStep.go; conv => whnf) | (refine Need.mk ?_ ?_; (focus (first | omega | exact ⟨by omega, by omega⟩ | rfl | exact ⟨rfl, rfl⟩ | exact ⟨rfl, by omega, by omega⟩ | exact ⟨by omega, by omega, by omega⟩ | exact ⟨rfl, Nat.le_of_ble_eq_true rfl⟩ | exact Nat.le_of_ble_eq_true rfl | (refine ⟨rfl, rfl, ?_⟩; simp [isFar, ofV0, CV.up, SV.renL, SV.ren] <;> fail) | (refine ⟨rfl, Nat.le_of_ble_eq_true rfl, ?_⟩; simp [isFar, ofV0, CV.up, SV.renL, SV.ren] <;> fail) | (simp only [List.length_append, List.length_drop, List.length_take, List.length_replicate, List.length_map]; omega) | (simp <;> fail))); conv => whnf) | (refine ⟨_, rfl, ?_⟩; conv => whnf)))
    refine Both.dec (fun hone => ?_) (fun hmore => ?_)
    · have hl1 : l.length ≤ 1 := by omega
      rw [pathP_one hl1, pathT_one hl1] at h
      (conv => whnf)
      (repeat (first | (exact Out.same; conv => whnf) | (exact Out1.same; conv => whnf) | (refine QAnd.mk ?_ ?_; conv => whnf) | (apply QStepH.go; conv => whnf) | (refine Both.lit_true ?_; conv => whnf) | (refine Both.lit_false ?_; conv => whnf) | (apply QStep.go; conv => whnf) | (refine Need.mk ?_ ?_; (focus (first | omega | exact ⟨by omega, by omega⟩ | rfl | exact ⟨rfl, rfl⟩ | exact ⟨rfl, by omega, by omega⟩ | exact ⟨by omega, by omega, by omega⟩ | exact ⟨rfl, Nat.le_of_ble_eq_true rfl⟩ | exact Nat.le_of_ble_eq_true rfl | (refine ⟨rfl, rfl, ?_⟩; simp [isFar, ofV0, CV.up, SV.renL, SV.ren] <;> fail) | (refine ⟨rfl, Nat.le_of_ble_eq_true rfl, ?_⟩; simp [isFar, ofV0, CV.up, SV.renL, SV.ren] <;> fail) | (simp only [List.length_append, List.length_drop, List.length_take, List.length_replicate, List.length_map]; omega) | (simp <;> fail))); conv => whnf) | (refine ⟨_, rfl, ?_⟩; conv => whnf) | (refine Both.of_false ?_ ?_; (focus (first | rfl | (simp <;> fail))); conv => whnf) | (refine Both.of_true ?_ ?_; (focus (first | rfl | (simp <;> fail))); conv => whnf)))
      refine ⟨_, _, WeakV.of ((Weak.ownNilT 0 9 1 rfl).trans (Weak.auto ?_)), h⟩
      (repeat' ((conv => whnf); first | exact True.intro | (refine And.intro ?_ ?_)))
      all_goals first | rfl | exact .eq rfl
    · have hn1 : ¬ l.length ≤ 1 := by omega
      have hlt := lft_lt (n := l.length) (by omega)
      have hpos := lft_pos l.length
      rw [pathP_two hn1, pathT_two hn1] at h
      have hcl := cut_lo l (k := lft l.length) (by omega)
      have hch := cut_hi l (k := lft l.length) (by omega)
      have l1 : (l.take (lft l.length)).length = lft l.length := by rw [List.length_take]; omega
      have l2 : (l.drop (lft l.length)).length = l.length - lft l.length := List.length_drop
      have o1 : ∀ p ∈ l.take (lft l.length), okP p := fun p hp => hok p (List.mem_of_mem_take hp)
      have o2 : ∀ p ∈ l.drop (lft l.length), okP p := fun p hp => hok p (List.mem_of_mem_drop hp)
      revert h hlt hpos hcl hch l1 l2 o1 o2
      generalize hg : lft l.length = g
      generalize ha : l.take g = la
      generalize hb : l.drop g = lb
      intro h hlt hpos hcl hch l1 l2 o1 o2
      have c1 : ti27.size = 2 ∧ (0 : Int) ≤ 0 ∧ (0 : Int) ≤ ((g : Nat) : Int) ∧ ((g : Nat) : Int) ≤ ((l.length : Nat) : Int) := ⟨rfl, by omega, by omega, by omega⟩
      have c2 : ti27.size = 2 ∧ 0 ≤ ((g : Nat) : Int) ∧ ((g : Nat) : Int) ≤ ((l.length : Nat) : Int) ∧ ((l.length : Nat) : Int) ≤ ((l.length : Nat) : Int) := ⟨rfl, by omega, by omega, by omega⟩
      have n1 : ((g : Nat) : Int).toNat - (0 : Int).toNat = la.length := by rw [l1]; rfl
      have n2 : ((l.length : Nat) : Int).toNat - ((g : Nat) : Int).toNat = lb.length := by rw [l2]; rfl
      have nb : la.length ≤ m ∧ 0 < la.length ∧ la.length < 60000 ∧ lb.length ≤ m ∧ 0 < lb.length ∧ lb.length < 60000 := by omega
      obtain ⟨b1, b2, b3, b4, b5, b6⟩ := nb
      have hb16 : ti9.bytes = 16 := rfl
      have hdep : ∀ (l : List Pr) (i : Nat), l.length < 60000 → (pathP l i).length < 60000 := fun l i h => by
        have h1 := (path_dep l.length l i (Nat.le_refl _)).1
        have h2 : ∀ (m n i : Nat), n ≤ m → depP i n ≤ n := by
          intro m
          induction m with
          | zero => intro n i hm; rw [depP_one (by omega)]; omega
          | succ m ihm =>
            intro n i hm
            by_cases h9 : n ≤ 1
            · rw [depP_one h9]; omega
            · have q1 := lft_lt (n := n) (by omega)
              have q2 := lft_pos n
              rw [depP_two h9]
              split
              · have := ihm (lft n) i (by omega); omega
              · have := ihm (n - lft n) (i - lft n) (by omega); omega
        have h3 := h2 l.length l.length i (Nat.le_refl _)
        omega
      (conv => whnf)
      (repeat (first | (exact Out.same; conv => whnf) | (exact Out1.same; conv => whnf) | (refine QAnd.mk ?_ ?_; conv => whnf) | (apply QStepH.go; conv => whnf) | (refine Both.lit_true ?_; conv => whnf) | (refine Both.lit_false ?_; conv => whnf) | (apply QStep.go; conv => whnf) | (refine Need.mk ?_ ?_; (focus (first | omega | exact ⟨by omega, by omega⟩ | rfl | exact ⟨rfl, rfl⟩ | exact ⟨rfl, by omega, by omega⟩ | exact ⟨by omega, by omega, by omega⟩ | exact ⟨rfl, Nat.le_of_ble_eq_true rfl⟩ | exact Nat.le_of_ble_eq_true rfl | (refine ⟨rfl, rfl, ?_⟩; simp [isFar, ofV0, CV.up, SV.renL, SV.ren] <;> fail) | (refine ⟨rfl, Nat.le_of_ble_eq_true rfl, ?_⟩; simp [isFar, ofV0, CV.up, SV.renL, SV.ren] <;> fail) | (simp only [List.length_append, List.length_drop, List.length_take, List.length_replicate, List.length_map]; omega) | (simp <;> fail))); conv => whnf) | (refine ⟨_, rfl, ?_⟩; conv => whnf)))
      refine CallVC.auto rlft_k ⟨l.length, rfl, by omega, by omega, ?_⟩
      rw [hg]
      (conv => whnf)
      (repeat (first | (exact Out.same; conv => whnf) | (exact Out1.same; conv => whnf) | (refine QAnd.mk ?_ ?_; conv => whnf) | (apply QStepH.go; conv => whnf) | (refine Both.lit_true ?_; conv => whnf) | (refine Both.lit_false ?_; conv => whnf) | (apply QStep.go; conv => whnf) | (refine Need.mk ?_ ?_; (focus (first | omega | exact ⟨by omega, by omega⟩ | rfl | exact ⟨rfl, rfl⟩ | exact ⟨rfl, by omega, by omega⟩ | exact ⟨by omega, by omega, by omega⟩ | exact ⟨rfl, Nat.le_of_ble_eq_true rfl⟩ | exact Nat.le_of_ble_eq_true rfl | (refine ⟨rfl, rfl, ?_⟩; simp [isFar, ofV0, CV.up, SV.renL, SV.ren] <;> fail) | (refine ⟨rfl, Nat.le_of_ble_eq_true rfl, ?_⟩; simp [isFar, ofV0, CV.up, SV.renL, SV.ren] <;> fail) | (simp only [List.length_append, List.length_drop, List.length_take, List.length_replicate, List.length_map]; omega) | (simp <;> fail))); conv => whnf) | (refine ⟨_, rfl, ?_⟩; conv => whnf)))
      refine Both.dec (fun hlo => ?_) (fun hhi => ?_)
      · rw [if_pos (by omega), if_pos (by omega)] at h
        have hp := hdep la i b3
        have s1 : ((pathP la i).length + 1) * ti9.bytes ≤ 140737488355328 := by rw [hb16]; omega
        have hobj : LObj.own 9 1 ((pathP la i).length + 1) (strs (pathP la i) ++ [CV.str (dgP lb)]) true = LObj.own 9 1 (pathP la i ++ [dgP lb]).length (strs (pathP la i ++ [dgP lb])) true := by
          rw [List.length_append, ← strs_app]
          rfl
        (conv => whnf)
        (refine DrawVC.any Γok (by kernel_rfl) (by kernel_rfl) (by kernel_rfl) (by rfl) ?_; conv => whnf)
        (repeat (first | (refine Need.mk c1 ?_; conv => whnf) | (refine Need.mk c2 ?_; conv => whnf) | (refine CallVC.auto ih (inB_mk ⟨la, i, n1, hcl, rfl, by omega, b1, b3, o1, ?_⟩); conv => whnf) | (refine CallVC.auto (rdg_k lb.length) (inB_mk ⟨lb, n2, hch, b5, Nat.le_refl _, b6, o2, ?_⟩); conv => whnf) | (refine Need.mk s1 ?_; conv => whnf) | (exact Out.same; conv => whnf) | (exact Out1.same; conv => whnf) | (refine QAnd.mk ?_ ?_; conv => whnf) | (apply QStepH.go; conv => whnf) | (refine Both.lit_true ?_; conv => whnf) | (refine Both.lit_false ?_; conv => whnf) | (apply QStep.go; conv => whnf) | (refine Need.mk ?_ ?_; (focus (first | omega | exact ⟨by omega, by omega⟩ | rfl | exact ⟨rfl, rfl⟩ | exact ⟨rfl, by omega, by omega⟩ | exact ⟨by omega, by omega, by omega⟩ | exact ⟨rfl, Nat.le_of_ble_eq_true rfl⟩ | exact Nat.le_of_ble_eq_true rfl | (refine ⟨rfl, rfl, ?_⟩; simp [isFar, ofV0, CV.up, SV.renL, SV.ren] <;> fail) | (refine ⟨rfl, Nat.le_of_ble_eq_true rfl, ?_⟩; simp [isFar, ofV0, CV.up, SV.renL, SV.ren] <;> fail) | (simp only [List.length_append, List.length_drop, List.length_take, List.length_replicate, List.length_map]; omega) | (simp <;> fail))); conv => whnf) | (refine ⟨_, rfl, ?_⟩; conv => whnf)))
        refine ⟨_, _, WeakV.auto ?_, h⟩
        (repeat' ((conv => whnf); first | exact True.intro | (refine And.intro ?_ ?_)))
        all_goals first | exact hobj | rfl | exact .eq rfl
      · rw [if_neg (by omega), if_neg (by omega)] at h
        have hp := hdep lb (i - g) b6
        have s1 : ((pathP lb (i - g)).length + 1) * ti9.bytes ≤ 140737488355328 := by rw [hb16]; omega
        have hwi : IntKind.i64.wrap ((i : Int) - (g : Int)) = ((i - g : Nat) : Int) := by rw [wrap_i64 (by omega) (by omega)]; omega
        have hobj : LObj.own 9 1 ((pathP lb (i - g)).length + 1) (strs (pathP lb (i - g)) ++ [CV.str (dgP la)]) true = LObj.own 9 1 (pathP lb (i - g) ++ [dgP la]).length (strs (pathP lb (i - g) ++ [dgP la])) true := by
          rw [List.length_append, ← strs_app]
          rfl
        (conv => whnf)
        (refine DrawVC.any Γok (by kernel_rfl) (by kernel_rfl) (by kernel_rfl) (by rfl) ?_; conv => whnf)
        (repeat (first | (refine Need.mk c1 ?_; conv => whnf) | (refine Need.mk c2 ?_; conv => whnf) | (refine CallVC.auto ih (inB_mk ⟨lb, i - g, n2, hch, hwi, by omega, b4, b6, o2, ?_⟩); conv => whnf) | (refine CallVC.auto (rdg_k la.length) (inB_mk ⟨la, n1, hcl, b2, Nat.le_refl _, b3, o1, ?_⟩); conv => whnf) | (refine Need.mk s1 ?_; conv => whnf) | (exact Out.same; conv => whnf) | (exact Out1.same; conv => whnf) | (refine QAnd.mk ?_ ?_; conv => whnf) | (apply QStepH.go; conv => whnf) | (refine Both.lit_true ?_; conv => whnf) | (refine Both.lit_false ?_; conv => whnf) | (apply QStep.go; conv => whnf) | (refine Need.mk ?_ ?_; (focus (first | omega | exact ⟨by omega, by omega⟩ | rfl | exact ⟨rfl, rfl⟩ | exact ⟨rfl, by omega, by omega⟩ | exact ⟨by omega, by omega, by omega⟩ | exact ⟨rfl, Nat.le_of_ble_eq_true rfl⟩ | exact Nat.le_of_ble_eq_true rfl | (refine ⟨rfl, rfl, ?_⟩; simp [isFar, ofV0, CV.up, SV.renL, SV.ren] <;> fail) | (refine ⟨rfl, Nat.le_of_ble_eq_true rfl, ?_⟩; simp [isFar, ofV0, CV.up, SV.renL, SV.ren] <;> fail) | (simp only [List.length_append, List.length_drop, List.length_take, List.length_replicate, List.length_map]; omega) | (simp <;> fail))); conv => whnf) | (refine ⟨_, rfl, ?_⟩; conv => whnf)))
        refine ⟨_, _, WeakV.auto ?_, h⟩
        (repeat' ((conv => whnf); first | exact True.intro | (refine And.intro ?_ ?_)))
        all_goals first | exact hobj | rfl | exact .eq rfl
theorem rpath_k (m : Nat) : Contract Tryd.prog [] 23 (rpathS m) := ⟨⟨⟨_, rfl, rfl, rfl⟩⟩, rpath_c m⟩
end Go.LX
end
section
set_option maxRecDepth 100000
set_option maxHeartbeats 2000000
set_option autoImplicit false
set_option linter.unusedVariables false
set_option linter.unusedSimpArgs false
namespace Go.LX
open Go.Proofs

/-- A contract, where the caller's view of things is weakened first. -/
theorem Contract.weak {P : Program} {G : Gl} {f : FuncId} {S S' : Spec} (hc : Contract P G f S) (h : ∀ args H Q, S' args H Q → ∃ s2 : LS, Weak G H.length ⟨args, H⟩ s2 ∧ S s2.t s2.h Q) : Contract P G f S' := by
  refine ⟨hc.ok, fun args H Q hs E w vs hv hr hg => ?_⟩
  obtain ⟨s2, hw, h2⟩ := h args H Q hs
  obtain ⟨E2, q1, q2⟩ := hw E E w { tmps := vs.toArray, defers := [] } hr.len.symm ⟨Env.Le.refl E, hv, hr, hg, rfl⟩
  refine (hc.meets s2.t s2.h Q h2 E2 w vs q1.vals q1.rel q1.gl).mono ?_
  rintro e w' ⟨v, r, H', E', h1, h3, h4, h5, h6, h7⟩
  exact ⟨v, r, H', E', h1, h3, h4, h5, q2.trans h6, q1.anc.trans h7⟩
/-! ## The program's paths -/
def fcell : LObj := .cells [.func (.func 33) [.ptr 0 0, .ptr 1 0]] 63
def ppS (m : Nat) : Spec := fun args H Q => match args, H with
  | [.sl 2 n cs f, .int .i64 x, .ptr 0 0, .ptr 1 0], [.cells [.func (.func 33) [.ptr 0 0, .ptr 1 0]] 63, .cells [.own 2] 45, .own 9 1 k xs true] =>
    ∃ (l : List Pr) (i : Nat) (acc : List Bs), n = l.length ∧ cs = flP l ∧ x = i ∧ i < l.length ∧ l.length ≤ m ∧ l.length < 60000 ∧ (∀ p ∈ l, okP p) ∧ xs = strs acc ∧ k = acc.length ∧ acc.length + l.length < 100000 ∧
      Q (.tuple []) [fcell, .cells [.own 3] 45, .gone, .own 9 1 (acc ++ pathP l i).length (strs (acc ++ pathP l i)) true]
  | _, _ => False
theorem dep_le : ∀ (m n i : Nat), n ≤ m → depP i n ≤ n
  | 0, n, i, hm => by rw [depP_one (by omega)]; omega
  | m + 1, n, i, hm => by
    by_cases h9 : n ≤ 1
    · rw [depP_one h9]; omega
    · have q1 := lft_lt (n := n) (by omega)
      have q2 := lft_pos n
      rw [depP_two h9]
      split
      · have := dep_le m (lft n) i (by omega); omega
      · have := dep_le m (n - lft n) (i - lft n) (by omega); omega
theorem dep_lt : ∀ (m n i : Nat), n ≤ m → 0 < n → depP i n < n
  | 0, n, i, hm, h0 => by omega
  | m + 1, n, i, hm, h0 => by
    by_cases h9 : n ≤ 1
    · rw [depP_one h9]; omega
    · have q1 := lft_lt (n := n) (by omega)
      have q2 := lft_pos n
      rw [depP_two h9]
      split
      · have := dep_lt m (lft n) i (by omega) (by omega); omega
      · have := dep_lt m (n - lft n) (i - lft n) (by omega) (by omega); omega
theorem path_lt (l : List Pr) (i : Nat) (h : 0 < l.length) : (pathP l i).length < l.length := by
  rw [(path_dep l.length l i (Nat.le_refl _)).1]
  exact dep_lt l.length l.length i (Nat.le_refl _) h
theorem pp_c {y0 : CV} {cs0 : List CV} (hK : KAt y0 cs0) : ∀ m, Meets Tryd.prog [(0, y0 :: cs0)] 33 (ppS m)
  | 0 => by
    intro args H Q h
    unfold ppS at h
    split at h
    case h_2 => exact h.elim
    obtain ⟨l, i, acc, _, _, _, h1, h2, _⟩ := h
    omega
  | m + 1 => by
    have ih : Contract Tryd.prog [(0, y0 :: cs0)] 33 (ppS m) := ⟨⟨⟨_, rfl, rfl, rfl⟩⟩, pp_c hK m⟩
    refine meets_of Γok Tryd.func33 rfl ?_
    intro args H Q h
    unfold ppS at h
    split at h
    case h_2 => exact h.elim
    rename_i n cs f x k xs
    obtain ⟨l, i, acc, rfl, rfl, rfl, hil, hm, h60, hok, rfl, rfl, hacc, h⟩ := h
    (refine sx_sound Γok _ ?_; conv => whnf)
    (repeat (first | (exact Out.same; conv => whnf) | (exact Out1.same; conv => whnf) | (refine QAnd.mk ?_ ?_; conv => whnf) | (apply QStepH.go; conv => whnf) | (refine Both.lit_true ?_; conv => whnf) | (refine Both.lit_false ?_; conv => whnf) | (apply QStep.go; conv => whnf) | (refine Need.mk ?_ ?_; (focus (first | omega | exact ⟨by omega, by omega⟩ | rfl | exact ⟨rfl, rfl⟩ | exact ⟨rfl, by omega, by omega⟩ | exact ⟨by omega, by omega, by omega⟩ | exact ⟨rfl, Nat.le_of_ble_eq_true rfl⟩ | exact Nat.le_of_ble_eq_true rfl | (refine ⟨rfl, rfl, ?_⟩; simp [isFar, ofV0, CV.up, SV.renL, SV.ren] <;> fail) | (refine ⟨rfl, Nat.le_of_ble_eq_true rfl, ?_⟩; simp [isFar, ofV0, CV.up, SV.renL, SV.ren] <;> fail) | (simp only [List.length_append, List.length_drop, List.length_take, List.length_replicate, List.length_map]; omega) | (simp <;> fail))); conv => whnf) | (refine ⟨_, rfl, ?_⟩; conv => whnf)))
    refine Both.dec (fun hone => ?_) (fun hmore => ?_)
    · have hl1 : l.length ≤ 1 := by omega
      rw [pathP_one hl1, List.append_nil] at h
      (conv => whnf)
      (repeat (first | (exact Out.same; conv => whnf) | (exact Out1.same; conv => whnf) | (refine QAnd.mk ?_ ?_; conv => whnf) | (apply QStepH.go; conv => whnf) | (refine Both.lit_true ?_; conv => whnf) | (refine Both.lit_false ?_; conv => whnf) | (apply QStep.go; conv => whnf) | (refine Need.mk ?_ ?_; (focus (first | omega | exact ⟨by omega, by omega⟩ | rfl | exact ⟨rfl, rfl⟩ | exact ⟨rfl, by omega, by omega⟩ | exact ⟨by omega, by omega, by omega⟩ | exact ⟨rfl, Nat.le_of_ble_eq_true rfl⟩ | exact Nat.le_of_ble_eq_true rfl | (refine ⟨rfl, rfl, ?_⟩; simp [isFar, ofV0, CV.up, SV.renL, SV.ren] <;> fail) | (refine ⟨rfl, Nat.le_of_ble_eq_true rfl, ?_⟩; simp [isFar, ofV0, CV.up, SV.renL, SV.ren] <;> fail) | (simp only [List.length_append, List.length_drop, List.length_take, List.length_replicate, List.length_map]; omega) | (simp <;> fail))); conv => whnf) | (refine ⟨_, rfl, ?_⟩; conv => whnf)))
      refine ⟨_, _, WeakV.of ((Weak.fresh 2 1 0 rfl rfl rfl).trans (Weak.auto ?_)), h⟩
      (repeat' ((conv => whnf); first | exact True.intro | (refine And.intro ?_ ?_)))
      all_goals first | rfl | exact .eq rfl
    · have hn1 : ¬ l.length ≤ 1 := by omega
      have hlt := lft_lt (n := l.length) (by omega)
      have hpos := lft_pos l.length
      rw [pathP_two hn1] at h
      have hcl := cut_lo l (k := lft l.length) (by omega)
      have hch := cut_hi l (k := lft l.length) (by omega)
      have l1 : (l.take (lft l.length)).length = lft l.length := by rw [List.length_take]; omega
      have l2 : (l.drop (lft l.length)).length = l.length - lft l.length := List.length_drop
      have o1 : ∀ p ∈ l.take (lft l.length), okP p := fun p hp => hok p (List.mem_of_mem_take hp)
      have o2 : ∀ p ∈ l.drop (lft l.length), okP p := fun p hp => hok p (List.mem_of_mem_drop hp)
      revert h hlt hpos hcl hch l1 l2 o1 o2
      generalize hg : lft l.length = g
      generalize ha : l.take g = la
      generalize hb : l.drop g = lb
      intro h hlt hpos hcl hch l1 l2 o1 o2
      have c1 : ti27.size = 2 ∧ (0 : Int) ≤ 0 ∧ (0 : Int) ≤ ((g : Nat) : Int) ∧ ((g : Nat) : Int) ≤ ((l.length : Nat) : Int) := ⟨rfl, by omega, by omega, by omega⟩
      have c2 : ti27.size = 2 ∧ 0 ≤ ((g : Nat) : Int) ∧ ((g : Nat) : Int) ≤ ((l.length : Nat) : Int) ∧ ((l.length : Nat) : Int) ≤ ((l.length : Nat) : Int) := ⟨rfl, by omega, by omega, by omega⟩
      have n1 : ((g : Nat) : Int).toNat - (0 : Int).toNat = la.length := by rw [l1]; rfl
      have n2 : ((l.length : Nat) : Int).toNat - ((g : Nat) : Int).toNat = lb.length := by rw [l2]; rfl
      have nb : la.length ≤ m ∧ 0 < la.length ∧ la.length < 60000 ∧ lb.length ≤ m ∧ 0 < lb.length ∧ lb.length < 60000 := by omega
      obtain ⟨b1, b2, b3, b4, b5, b6⟩ := nb
      have hb16 : ti9.bytes = 16 := rfl
      (conv => whnf)
      (repeat (first | (exact Out.same; conv => whnf) | (exact Out1.same; conv => whnf) | (refine QAnd.mk ?_ ?_; conv => whnf) | (apply QStepH.go; conv => whnf) | (refine Both.lit_true ?_; conv => whnf) | (refine Both.lit_false ?_; conv => whnf) | (apply QStep.go; conv => whnf) | (refine Need.mk ?_ ?_; (focus (first | omega | exact ⟨by omega, by omega⟩ | rfl | exact ⟨rfl, rfl⟩ | exact ⟨rfl, by omega, by omega⟩ | exact ⟨by omega, by omega, by omega⟩ | exact ⟨rfl, Nat.le_of_ble_eq_true rfl⟩ | exact Nat.le_of_ble_eq_true rfl | (refine ⟨rfl, rfl, ?_⟩; simp [isFar, ofV0, CV.up, SV.renL, SV.ren] <;> fail) | (refine ⟨rfl, Nat.le_of_ble_eq_true rfl, ?_⟩; simp [isFar, ofV0, CV.up, SV.renL, SV.ren] <;> fail) | (simp only [List.length_append, List.length_drop, List.length_take, List.length_replicate, List.length_map]; omega) | (simp <;> fail))); conv => whnf) | (refine ⟨_, rfl, ?_⟩; conv => whnf)))
      refine CallVC.auto (lft_k.gl (G := [(0, y0 :: cs0)])) ⟨l.length, rfl, by omega, by omega, ?_⟩
      rw [hg]
      (conv => whnf)
      (repeat (first | (exact Out.same; conv => whnf) | (exact Out1.same; conv => whnf) | (refine QAnd.mk ?_ ?_; conv => whnf) | (apply QStepH.go; conv => whnf) | (refine Both.lit_true ?_; conv => whnf) | (refine Both.lit_false ?_; conv => whnf) | (apply QStep.go; conv => whnf) | (refine Need.mk ?_ ?_; (focus (first | omega | exact ⟨by omega, by omega⟩ | rfl | exact ⟨rfl, rfl⟩ | exact ⟨rfl, by omega, by omega⟩ | exact ⟨by omega, by omega, by omega⟩ | exact ⟨rfl, Nat.le_of_ble_eq_true rfl⟩ | exact Nat.le_of_ble_eq_true rfl | (refine ⟨rfl, rfl, ?_⟩; simp [isFar, ofV0, CV.up, SV.renL, SV.ren] <;> fail) | (refine ⟨rfl, Nat.le_of_ble_eq_true rfl, ?_⟩; simp [isFar, ofV0, CV.up, SV.renL, SV.ren] <;> fail) | (simp only [List.length_append, List.length_drop, List.length_take, List.length_replicate, List.length_map]; omega) | (simp <;> fail))); conv => whnf) | (refine ⟨_, rfl, ?_⟩; conv => whnf)))
      refine Both.dec (fun hlo => ?_) (fun hhi => ?_)
      · rw [if_pos (by omega)] at h
        have hp := path_lt la i b2
        have s1 : ((acc ++ pathP la i).length + 1) * ti9.bytes ≤ 140737488355328 := by rw [hb16, List.length_append]; omega
        have hobj : LObj.own 9 1 ((acc ++ pathP la i).length + 1) (strs (acc ++ pathP la i) ++ [CV.str (dgP lb)]) true = LObj.own 9 1 (acc ++ (pathP la i ++ [dgP lb])).length (strs (acc ++ (pathP la i ++ [dgP lb]))) true := by
          rw [← List.append_assoc, List.length_append (bs := [dgP lb]), ← strs_app (acc ++ pathP la i)]
          rfl
        (conv => whnf)
        (refine DrawVC.any Γok (by kernel_rfl) (by kernel_rfl) (by kernel_rfl) (by rfl) ?_; conv => whnf)
        (repeat (first | (refine Need.mk c1 ?_; conv => whnf) | (refine CallClo.auto ih ⟨la, i, acc, n1, hcl, rfl, by omega, b1, b3, o1, rfl, rfl, by omega, ?_⟩; conv => whnf) | (exact Out.same; conv => whnf) | (exact Out1.same; conv => whnf) | (refine QAnd.mk ?_ ?_; conv => whnf) | (apply QStepH.go; conv => whnf) | (refine Both.lit_true ?_; conv => whnf) | (refine Both.lit_false ?_; conv => whnf) | (apply QStep.go; conv => whnf) | (refine Need.mk ?_ ?_; (focus (first | omega | exact ⟨by omega, by omega⟩ | rfl | exact ⟨rfl, rfl⟩ | exact ⟨rfl, by omega, by omega⟩ | exact ⟨by omega, by omega, by omega⟩ | exact ⟨rfl, Nat.le_of_ble_eq_true rfl⟩ | exact Nat.le_of_ble_eq_true rfl | (refine ⟨rfl, rfl, ?_⟩; simp [isFar, ofV0, CV.up, SV.renL, SV.ren] <;> fail) | (refine ⟨rfl, Nat.le_of_ble_eq_true rfl, ?_⟩; simp [isFar, ofV0, CV.up, SV.renL, SV.ren] <;> fail) | (simp only [List.length_append, List.length_drop, List.length_take, List.length_replicate, List.length_map]; omega) | (simp <;> fail))); conv => whnf) | (refine ⟨_, rfl, ?_⟩; conv => whnf)))
        (refine DrawVC.any Γok (by kernel_rfl) (by kernel_rfl) (by kernel_rfl) (by rfl) ?_; conv => whnf)
        (repeat (first | (refine Need.mk c2 ?_; conv => whnf) | (refine CallVC.auto (mdig_k hK lb.length) ⟨lb, n2, hch, b5, Nat.le_refl _, b6, o2, ?_⟩; conv => whnf) | (refine Need.mk s1 ?_; conv => whnf) | (exact Out.same; conv => whnf) | (exact Out1.same; conv => whnf) | (refine QAnd.mk ?_ ?_; conv => whnf) | (apply QStepH.go; conv => whnf) | (refine Both.lit_true ?_; conv => whnf) | (refine Both.lit_false ?_; conv => whnf) | (apply QStep.go; conv => whnf) | (refine Need.mk ?_ ?_; (focus (first | omega | exact ⟨by omega, by omega⟩ | rfl | exact ⟨rfl, rfl⟩ | exact ⟨rfl, by omega, by omega⟩ | exact ⟨by omega, by omega, by omega⟩ | exact ⟨rfl, Nat.le_of_ble_eq_true rfl⟩ | exact Nat.le_of_ble_eq_true rfl | (refine ⟨rfl, rfl, ?_⟩; simp [isFar, ofV0, CV.up, SV.renL, SV.ren] <;> fail) | (refine ⟨rfl, Nat.le_of_ble_eq_true rfl, ?_⟩; simp [isFar, ofV0, CV.up, SV.renL, SV.ren] <;> fail) | (simp only [List.length_append, List.length_drop, List.length_take, List.length_replicate, List.length_map]; omega) | (simp <;> fail))); conv => whnf) | (refine ⟨_, rfl, ?_⟩; conv => whnf)))
        refine ⟨_, _, WeakV.auto ?_, h⟩
        (repeat' ((conv => whnf); first | exact True.intro | (refine And.intro ?_ ?_)))
        all_goals first | exact hobj | rfl | exact .eq rfl
      · rw [if_neg (by omega)] at h
        have hp := path_lt lb (i - g) b5
        have s1 : ((acc ++ pathP lb (i - g)).length + 1) * ti9.bytes ≤ 140737488355328 := by rw [hb16, List.length_append]; omega
        have hwi : IntKind.i64.wrap ((i : Int) - (g : Int)) = ((i - g : Nat) : Int) := by rw [wrap_i64 (by omega) (by omega)]; omega
        have hobj : LObj.own 9 1 ((acc ++ pathP lb (i - g)).length + 1) (strs (acc ++ pathP lb (i - g)) ++ [CV.str (dgP la)]) true = LObj.own 9 1 (acc ++ (pathP lb (i - g) ++ [dgP la])).length (strs (acc ++ (pathP lb (i - g) ++ [dgP la]))) true := by
          rw [← List.append_assoc, List.length_append (bs := [dgP la]), ← strs_app (acc ++ pathP lb (i - g))]
          rfl
        (conv => whnf)
        (repeat (first | (exact Out.same; conv => whnf) | (exact Out1.same; conv => whnf) | (refine QAnd.mk ?_ ?_; conv => whnf) | (apply QStepH.go; conv => whnf) | (refine Both.lit_true ?_; conv => whnf) | (refine Both.lit_false ?_; conv => whnf) | (apply QStep.go; conv => whnf) | (refine Need.mk ?_ ?_; (focus (first | omega | exact ⟨by omega, by omega⟩ | rfl | exact ⟨rfl, rfl⟩ | exact ⟨rfl, by omega, by omega⟩ | exact ⟨by omega, by omega, by omega⟩ | exact ⟨rfl, Nat.le_of_ble_eq_true rfl⟩ | exact Nat.le_of_ble_eq_true rfl | (refine ⟨rfl, rfl, ?_⟩; simp [isFar, ofV0, CV.up, SV.renL, SV.ren] <;> fail) | (refine ⟨rfl, Nat.le_of_ble_eq_true rfl, ?_⟩; simp [isFar, ofV0, CV.up, SV.renL, SV.ren] <;> fail) | (simp only [List.length_append, List.length_drop, List.length_take, List.length_replicate, List.length_map]; omega) | (simp <;> fail))); conv => whnf) | (refine ⟨_, rfl, ?_⟩; conv => whnf)))
        (refine DrawVC.any Γok (by kernel_rfl) (by kernel_rfl) (by kernel_rfl) (by rfl) ?_; conv => whnf)
        (repeat (first | (refine Need.mk c2 ?_; conv => whnf) | (refine CallClo.auto ih ⟨lb, i - g, acc, n2, hch, hwi, by omega, b4, b6, o2, rfl, rfl, by omega, ?_⟩; conv => whnf) | (exact Out.same; conv => whnf) | (exact Out1.same; conv => whnf) | (refine QAnd.mk ?_ ?_; conv => whnf) | (apply QStepH.go; conv => whnf) | (refine Both.lit_true ?_; conv => whnf) | (refine Both.lit_false ?_; conv => whnf) | (apply QStep.go; conv => whnf) | (refine Need.mk ?_ ?_; (focus (first | omega | exact ⟨by omega, by omega⟩ | rfl | exact ⟨rfl, rfl⟩ | exact ⟨rfl, by omega, by omega⟩ | exact ⟨by omega, by omega, by omega⟩ | exact ⟨rfl, Nat.le_of_ble_eq_true rfl⟩ | exact Nat.le_of_ble_eq_true rfl | (refine ⟨rfl, rfl, ?_⟩; simp [isFar, ofV0, CV.up, SV.renL, SV.ren] <;> fail) | (refine ⟨rfl, Nat.le_of_ble_eq_true rfl, ?_⟩; simp [isFar, ofV0, CV.up, SV.renL, SV.ren] <;> fail) | (simp only [List.length_append, List.length_drop, List.length_take, List.length_replicate, List.length_map]; omega) | (simp <;> fail))); conv => whnf) | (refine ⟨_, rfl, ?_⟩; conv => whnf)))
        (refine DrawVC.any Γok (by kernel_rfl) (by kernel_rfl) (by kernel_rfl) (by rfl) ?_; conv => whnf)
        (repeat (first | (refine Need.mk c1 ?_; conv => whnf) | (refine CallVC.auto (mdig_k hK la.length) ⟨la, n1, hcl, b2, Nat.le_refl _, b3, o1, ?_⟩; conv => whnf) | (refine Need.mk s1 ?_; conv => whnf) | (exact Out.same; conv => whnf) | (exact Out1.same; conv => whnf) | (refine QAnd.mk ?_ ?_; conv => whnf) | (apply QStepH.go; conv => whnf) | (refine Both.lit_true ?_; conv => whnf) | (refine Both.lit_false ?_; conv => whnf) | (apply QStep.go; conv => whnf) | (refine Need.mk ?_ ?_; (focus (first | omega | exact ⟨by omega, by omega⟩ | rfl | exact ⟨rfl, rfl⟩ | exact ⟨rfl, by omega, by omega⟩ | exact ⟨by omega, by omega, by omega⟩ | exact ⟨rfl, Nat.le_of_ble_eq_true rfl⟩ | exact Nat.le_of_ble_eq_true rfl | (refine ⟨rfl, rfl, ?_⟩; simp [isFar, ofV0, CV.up, SV.renL, SV.ren] <;> fail) | (refine ⟨rfl, Nat.le_of_ble_eq_true rfl, ?_⟩; simp [isFar, ofV0, CV.up, SV.renL, SV.ren] <;> fail) | (simp only [List.length_append, List.length_drop, List.length_take, List.length_replicate, List.length_map]; omega) | (simp <;> fail))); conv => whnf) | (refine ⟨_, rfl, ?_⟩; conv => whnf)))
        refine ⟨_, _, WeakV.auto ?_, h⟩
        (repeat' ((conv => whnf); first | exact True.intro | (refine And.intro ?_ ?_)))
        all_goals first | exact hobj | rfl | exact .eq rfl
theorem pp_k {y0 : CV} {cs0 : List CV} (hK : KAt y0 cs0) (m : Nat) : Contract Tryd.prog [(0, y0 :: cs0)] 33 (ppS m) := ⟨⟨⟨_, rfl, rfl, rfl⟩⟩, pp_c hK m⟩
/-- The same, where nothing was noted yet. -/
def pp0S (m : Nat) : Spec := fun args H Q => match args, H with
  | [.sl 2 n cs f, .int .i64 x, .ptr 0 0, .ptr 1 0], [.cells [.func (.func 33) [.ptr 0 0, .ptr 1 0]] 63, .cells [.nilsl] 45] =>
    ∃ (l : List Pr) (i : Nat), n = l.length ∧ cs = flP l ∧ x = i ∧ i < l.length ∧ l.length ≤ m ∧ l.length < 60000 ∧ (∀ p ∈ l, okP p) ∧
      Q (.tuple []) [fcell, .cells [.own 3] 45, .gone, .own 9 1 (pathP l i).length (strs (pathP l i)) true]
  | _, _ => False
theorem pp0_k {y0 : CV} {cs0 : List CV} (hK : KAt y0 cs0) (m : Nat) : Contract Tryd.prog [(0, y0 :: cs0)] 33 (pp0S m) := (pp_k hK m).weak fun args H Q h => by
  unfold pp0S at h
  split at h
  case h_2 => exact h.elim
  rename_i n cs f x
  obtain ⟨l, i, rfl, rfl, rfl, h1, h2, h3, h4, h⟩ := h
  refine ⟨_, Weak.ownNil 1 0 9 1 rfl rfl, l, i, [], rfl, rfl, rfl, h1, h2, h3, h4, rfl, rfl, ?_, ?_⟩
  · show 0 + l.length < 100000
    omega
  · exact h
/-- A path, as it is told. -/
def pathO (l : List Pr) (x : Int) : List Bs := if x < 0 ∨ (l.length : Int) ≤ x then [] else pathP l x.toNat
def mpathS : Spec := fun args H Q => match args, H with
  | [.sl 2 n cs f, .int .i64 x], [] => ∃ l : List Pr, n = l.length ∧ cs = flP l ∧ l.length < 60000 ∧ (∀ p ∈ l, okP p) ∧ Q (.own 0) [.own 9 1 (pathO l x).length (strs (pathO l x)) true]
  | _, _ => False
theorem mpath_c {y0 : CV} {cs0 : List CV} (hK : KAt y0 cs0) : Meets Tryd.prog [(0, y0 :: cs0)] 22 mpathS := by
  refine meets_of Γok Tryd.func22 rfl ?_
  intro args H Q h
  unfold mpathS at h
  split at h
  case h_2 => exact h.elim
  rename_i n cs f x
  obtain ⟨l, rfl, rfl, h60, hok, h⟩ := h
  have out : (x < 0 ∨ (l.length : Int) ≤ x) → Q (.own 0) [.own 9 1 0 [] true] := fun h9 => by
    unfold pathO at h
    rw [if_pos h9] at h
    exact h
  (refine sx_sound Γok _ ?_; conv => whnf)
  (repeat (first | (exact Out.same; conv => whnf) | (exact Out1.same; conv => whnf) | (refine QAnd.mk ?_ ?_; conv => whnf) | (apply QStepH.go; conv => whnf) | (refine Both.lit_true ?_; conv => whnf) | (refine Both.lit_false ?_; conv => whnf) | (apply QStep.go; conv => whnf) | (refine Need.mk ?_ ?_; (focus (first | omega | exact ⟨by omega, by omega⟩ | rfl | exact ⟨rfl, rfl⟩ | exact ⟨rfl, by omega, by omega⟩ | exact ⟨by omega, by omega, by omega⟩ | exact ⟨rfl, Nat.le_of_ble_eq_true rfl⟩ | exact Nat.le_of_ble_eq_true rfl | (refine ⟨rfl, rfl, ?_⟩; simp [isFar, ofV0, CV.up, SV.renL, SV.ren] <;> fail) | (refine ⟨rfl, Nat.le_of_ble_eq_true rfl, ?_⟩; simp [isFar, ofV0, CV.up, SV.renL, SV.ren] <;> fail) | (simp only [List.length_append, List.length_drop, List.length_take, List.length_replicate, List.length_map]; omega) | (simp <;> fail))); conv => whnf) | (refine ⟨_, rfl, ?_⟩; conv => whnf)))
  refine Both.dec (fun hneg => ?_) (fun hpos => ?_)
  · (conv => whnf)
    (repeat (first | (exact Out.same; conv => whnf) | (exact Out1.same; conv => whnf) | (refine QAnd.mk ?_ ?_; conv => whnf) | (apply QStepH.go; conv => whnf) | (refine Both.lit_true ?_; conv => whnf) | (refine Both.lit_false ?_; conv => whnf) | (apply QStep.go; conv => whnf) | (refine Need.mk ?_ ?_; (focus (first | omega | exact ⟨by omega, by omega⟩ | rfl | exact ⟨rfl, rfl⟩ | exact ⟨rfl, by omega, by omega⟩ | exact ⟨by omega, by omega, by omega⟩ | exact ⟨rfl, Nat.le_of_ble_eq_true rfl⟩ | exact Nat.le_of_ble_eq_true rfl | (refine ⟨rfl, rfl, ?_⟩; simp [isFar, ofV0, CV.up, SV.renL, SV.ren] <;> fail) | (refine ⟨rfl, Nat.le_of_ble_eq_true rfl, ?_⟩; simp [isFar, ofV0, CV.up, SV.renL, SV.ren] <;> fail) | (simp only [List.length_append, List.length_drop, List.length_take, List.length_replicate, List.length_map]; omega) | (simp <;> fail))); conv => whnf) | (refine ⟨_, rfl, ?_⟩; conv => whnf) | (refine Both.of_false ?_ ?_; (focus (first | rfl | (simp <;> fail))); conv => whnf) | (refine Both.of_true ?_ ?_; (focus (first | rfl | (simp <;> fail))); conv => whnf)))
    refine ⟨_, _, WeakV.of ((Weak.ownNilT 0 9 1 rfl).trans (Weak.auto ?_)), out (.inl hneg)⟩
    (repeat' ((conv => whnf); first | exact True.intro | (refine And.intro ?_ ?_)))
    all_goals first | rfl | exact .eq rfl
  · (conv => whnf)
    (repeat (first | (exact Out.same; conv => whnf) | (exact Out1.same; conv => whnf) | (refine QAnd.mk ?_ ?_; conv => whnf) | (apply QStepH.go; conv => whnf) | (refine Both.lit_true ?_; conv => whnf) | (refine Both.lit_false ?_; conv => whnf) | (apply QStep.go; conv => whnf) | (refine Need.mk ?_ ?_; (focus (first | omega | exact ⟨by omega, by omega⟩ | rfl | exact ⟨rfl, rfl⟩ | exact ⟨rfl, by omega, by omega⟩ | exact ⟨by omega, by omega, by omega⟩ | exact ⟨rfl, Nat.le_of_ble_eq_true rfl⟩ | exact Nat.le_of_ble_eq_true rfl | (refine ⟨rfl, rfl, ?_⟩; simp [isFar, ofV0, CV.up, SV.renL, SV.ren] <;> fail) | (refine ⟨rfl, Nat.le_of_ble_eq_true rfl, ?_⟩; simp [isFar, ofV0, CV.up, SV.renL, SV.ren] <;> fail) | (simp only [List.length_append, List.length_drop, List.length_take, List.length_replicate, List.length_map]; omega) | (simp <;> fail))); conv => whnf) | (refine ⟨_, rfl, ?_⟩; conv => whnf)))
    refine Both.dec (fun hbig => ?_) (fun hin => ?_)
    · (conv => whnf)
      (repeat (first | (exact Out.same; conv => whnf) | (exact Out1.same; conv => whnf) | (refine QAnd.mk ?_ ?_; conv => whnf) | (apply QStepH.go; conv => whnf) | (refine Both.lit_true ?_; conv => whnf) | (refine Both.lit_false ?_; conv => whnf) | (apply QStep.go; conv => whnf) | (refine Need.mk ?_ ?_; (focus (first | omega | exact ⟨by omega, by omega⟩ | rfl | exact ⟨rfl, rfl⟩ | exact ⟨rfl, by omega, by omega⟩ | exact ⟨by omega, by omega, by omega⟩ | exact ⟨rfl, Nat.le_of_ble_eq_true rfl⟩ | exact Nat.le_of_ble_eq_true rfl | (refine ⟨rfl, rfl, ?_⟩; simp [isFar, ofV0, CV.up, SV.renL, SV.ren] <;> fail) | (refine ⟨rfl, Nat.le_of_ble_eq_true rfl, ?_⟩; simp [isFar, ofV0, CV.up, SV.renL, SV.ren] <;> fail) | (simp only [List.length_append, List.length_drop, List.length_take, List.length_replicate, List.length_map]; omega) | (simp <;> fail))); conv => whnf) | (refine ⟨_, rfl, ?_⟩; conv => whnf) | (refine Both.of_false ?_ ?_; (focus (first | rfl | (simp <;> fail))); conv => whnf) | (refine Both.of_true ?_ ?_; (focus (first | rfl | (simp <;> fail))); conv => whnf)))
      refine ⟨_, _, WeakV.of ((Weak.ownNilT 0 9 1 rfl).trans (Weak.auto ?_)), out (.inr hbig)⟩
      (repeat' ((conv => whnf); first | exact True.intro | (refine And.intro ?_ ?_)))
      all_goals first | rfl | exact .eq rfl
    · unfold pathO at h
      rw [if_neg (by omega)] at h
      have hx : x = ((x.toNat : Nat) : Int) := by omega
      have hxl : x.toNat < l.length := by omega
      (conv => whnf)
      (repeat (first | (exact Out.same; conv => whnf) | (exact Out1.same; conv => whnf) | (refine QAnd.mk ?_ ?_; conv => whnf) | (apply QStepH.go; conv => whnf) | (refine Both.lit_true ?_; conv => whnf) | (refine Both.lit_false ?_; conv => whnf) | (apply QStep.go; conv => whnf) | (refine Need.mk ?_ ?_; (focus (first | omega | exact ⟨by omega, by omega⟩ | rfl | exact ⟨rfl, rfl⟩ | exact ⟨rfl, by omega, by omega⟩ | exact ⟨by omega, by omega, by omega⟩ | exact ⟨rfl, Nat.le_of_ble_eq_true rfl⟩ | exact Nat.le_of_ble_eq_true rfl | (refine ⟨rfl, rfl, ?_⟩; simp [isFar, ofV0, CV.up, SV.renL, SV.ren] <;> fail) | (refine ⟨rfl, Nat.le_of_ble_eq_true rfl, ?_⟩; simp [isFar, ofV0, CV.up, SV.renL, SV.ren] <;> fail) | (simp only [List.length_append, List.length_drop, List.length_take, List.length_replicate, List.length_map]; omega) | (simp <;> fail))); conv => whnf) | (refine ⟨_, rfl, ?_⟩; conv => whnf) | (refine Both.of_false ?_ ?_; (focus (first | rfl | (simp <;> fail))); conv => whnf) | (refine Both.of_true ?_ ?_; (focus (first | rfl | (simp <;> fail))); conv => whnf)))
      refine CallClo.auto (pp0_k hK l.length) ⟨l, x.toNat, rfl, rfl, hx, hxl, Nat.le_refl _, h60, hok, ?_⟩
      (conv => whnf)
      (repeat (first | (exact Out.same; conv => whnf) | (exact Out1.same; conv => whnf) | (refine QAnd.mk ?_ ?_; conv => whnf) | (apply QStepH.go; conv => whnf) | (refine Both.lit_true ?_; conv => whnf) | (refine Both.lit_false ?_; conv => whnf) | (apply QStep.go; conv => whnf) | (refine Need.mk ?_ ?_; (focus (first | omega | exact ⟨by omega, by omega⟩ | rfl | exact ⟨rfl, rfl⟩ | exact ⟨rfl, by omega, by omega⟩ | exact ⟨by omega, by omega, by omega⟩ | exact ⟨rfl, Nat.le_of_ble_eq_true rfl⟩ | exact Nat.le_of_ble_eq_true rfl | (refine ⟨rfl, rfl, ?_⟩; simp [isFar, ofV0, CV.up, SV.renL, SV.ren] <;> fail) | (refine ⟨rfl, Nat.le_of_ble_eq_true rfl, ?_⟩; simp [isFar, ofV0, CV.up, SV.renL, SV.ren] <;> fail) | (simp only [List.length_append, List.length_drop, List.length_take, List.length_replicate, List.length_map]; omega) | (simp <;> fail))); conv => whnf) | (refine ⟨_, rfl, ?_⟩; conv => whnf)))
      refine ⟨_, _, WeakV.auto ?_, h⟩
      (repeat' ((conv => whnf); first | exact True.intro | (refine And.intro ?_ ?_)))
      all_goals first | rfl | exact .eq rfl
theorem mpath_k {y0 : CV} {cs0 : List CV} (hK : KAt y0 cs0) : Contract Tryd.prog [(0, y0 :: cs0)] 22 mpathS := ⟨⟨⟨_, rfl, rfl, rfl⟩⟩, mpath_c hK⟩
/-! ## The program's climb -/
def ucell : LObj := .cells [.func (.func 36) [.ptr 0 0, .ptr 1 0, .ptr 2 0, .ptr 3 0]] 65
def upS (m : Nat) : Spec := fun args H Q => match args, H with
  | [.int .i64 x, .int .i64 y, .ptr 0 0, .ptr 1 0, .ptr 2 0, .ptr 3 0], [.cells [.int .i64 c1, .int .i64 c2, .str k, .str v, .sl 1 n0 cs0 false] 50, .cells [.sl 1 n cs false] 45, .cells [.bool ok] 4, .cells [.func (.func 36) [.ptr 0 0, .ptr 1 0, .ptr 2 0, .ptr 3 0]] 65] =>
    ∃ (i cnt : Nat) (p : List Bs), x = i ∧ y = cnt ∧ i < cnt ∧ cnt ≤ m ∧ cnt < 60000 ∧ cs = strs p ∧ n = p.length ∧ p.length < 1000000 ∧ k.length < 50000 ∧ v.length < 50000 ∧
      Q (.str (upP (txLeaf (k, v)) cnt i p ok).1) [.cells [.int .i64 c1, .int .i64 c2, .str k, .str v, .sl 1 n0 cs0 false] 50, .cells [.sl 1 (upP (txLeaf (k, v)) cnt i p ok).2.1.length (strs (upP (txLeaf (k, v)) cnt i p ok).2.1) false] 45, .cells [.bool (upP (txLeaf (k, v)) cnt i p ok).2.2] 4, ucell]
  | _, _ => False
theorem strs_at (l : List Bs) {k : Nat} (h : k < l.length) : (strs l)[((k : Nat) : Int).toNat]? = some (CV.str (l.getD k [])) := parts_at l k h
theorem up_short (lf : Bs) : ∀ (m n i : Nat) (p : List Bs) (ok : Bool), n ≤ m → (upP lf n i p ok).1.length ≤ 32
  | 0, n, i, p, ok, hm => by rw [upP_one (by omega)]; exact Nat.le_of_eq (shaD_len _)
  | m + 1, n, i, p, ok, hm => by
    by_cases h : n ≤ 1
    · rw [upP_one h]; exact Nat.le_of_eq (shaD_len _)
    · rw [upP_two h]
      split
      · exact Nat.zero_le _
      · split
        · split
          · exact Nat.le_of_eq (shaD_len _)
          · exact Nat.le_of_eq (shaD_len _)
        · exact Nat.zero_le _
end Go.LX
end
section
set_option maxRecDepth 100000
set_option maxHeartbeats 2000000
set_option autoImplicit false
set_option linter.unusedVariables false
set_option linter.unusedSimpArgs false
namespace Go.LX
open Go.Proofs

theorem strs_last (p : List Bs) (b : Bs) : (strs (p ++ [b]))[((p.length : Nat) : Int).toNat]? = some (CV.str b) := by
  have := strs_at (p ++ [b]) (k := p.length) (by simp)
  rw [getD_end] at this
  exact this
theorem strs_cut (p : List Bs) (b : Bs) : ((strs (p ++ [b])).take (((p.length : Nat) : Int).toNat * 1)).drop ((0 : Int).toNat * 1) = strs p := by
  simp only [Int.toNat_natCast, Nat.mul_one]
  rw [strs, strs, ← List.map_take, List.take_left]
  rfl
theorem up_c {y0 : CV} {cs0 : List CV} (hK : KAt y0 cs0) : ∀ m, Meets Tryd.prog [(0, y0 :: cs0)] 36 (upS m)
  | 0 => by
    intro args H Q h
    unfold upS at h
    split at h
    case h_2 => exact h.elim
    obtain ⟨i, cnt, p, _, _, h1, h2, _⟩ := h
    omega
  | m + 1 => by
    have ih : Contract Tryd.prog [(0, y0 :: cs0)] 36 (upS m) := ⟨⟨⟨_, rfl, rfl, rfl⟩⟩, up_c hK m⟩
    refine meets_of Γok Tryd.func36 rfl ?_
    intro args H Q h
    unfold upS at h
    split at h
    case h_2 => exact h.elim
    rename_i x y c1 c2 k v n0 cs0' n cs ok
    obtain ⟨i, cnt, p, rfl, rfl, hi, hm, h60, rfl, rfl, hp, hk, hv, h⟩ := h
    (refine sx_sound Γok _ ?_; conv => whnf)
    (repeat (first | (exact Out.same; conv => whnf) | (exact Out1.same; conv => whnf) | (refine QAnd.mk ?_ ?_; conv => whnf) | (apply QStepH.go; conv => whnf) | (refine Both.lit_true ?_; conv => whnf) | (refine Both.lit_false ?_; conv => whnf) | (apply QStep.go; conv => whnf) | (refine Need.mk ?_ ?_; (focus (first | omega | exact ⟨by omega, by omega⟩ | rfl | exact ⟨rfl, rfl⟩ | exact ⟨rfl, by omega, by omega⟩ | exact ⟨by omega, by omega, by omega⟩ | exact ⟨rfl, Nat.le_of_ble_eq_true rfl⟩ | exact Nat.le_of_ble_eq_true rfl | (refine ⟨rfl, rfl, ?_⟩; simp [isFar, ofV0, CV.up, SV.renL, SV.ren] <;> fail) | (refine ⟨rfl, Nat.le_of_ble_eq_true rfl, ?_⟩; simp [isFar, ofV0, CV.up, SV.renL, SV.ren] <;> fail) | (simp only [List.length_append, List.length_drop, List.length_take, List.length_replicate, List.length_map]; omega) | (simp <;> fail))); conv => whnf) | (refine ⟨_, rfl, ?_⟩; conv => whnf)))
    refine Both.dec (fun hone => ?_) (fun hmore => ?_)
    · rw [upP_one (show cnt ≤ 1 by omega)] at h
      (conv => whnf)
      (repeat (first | (exact Out.same; conv => whnf) | (exact Out1.same; conv => whnf) | (refine QAnd.mk ?_ ?_; conv => whnf) | (apply QStepH.go; conv => whnf) | (refine Both.lit_true ?_; conv => whnf) | (refine Both.lit_false ?_; conv => whnf) | (apply QStep.go; conv => whnf) | (refine Need.mk ?_ ?_; (focus (first | omega | exact ⟨by omega, by omega⟩ | rfl | exact ⟨rfl, rfl⟩ | exact ⟨rfl, by omega, by omega⟩ | exact ⟨by omega, by omega, by omega⟩ | exact ⟨rfl, Nat.le_of_ble_eq_true rfl⟩ | exact Nat.le_of_ble_eq_true rfl | (refine ⟨rfl, rfl, ?_⟩; simp [isFar, ofV0, CV.up, SV.renL, SV.ren] <;> fail) | (refine ⟨rfl, Nat.le_of_ble_eq_true rfl, ?_⟩; simp [isFar, ofV0, CV.up, SV.renL, SV.ren] <;> fail) | (simp only [List.length_append, List.length_drop, List.length_take, List.length_replicate, List.length_map]; omega) | (simp <;> fail))); conv => whnf) | (refine ⟨_, rfl, ?_⟩; conv => whnf)))
      refine CallVC.auto (leaf_k hK) (Need.mk ⟨hk, hv⟩ ?_)
      (conv => whnf)
      (repeat (first | (exact Out.same; conv => whnf) | (exact Out1.same; conv => whnf) | (refine QAnd.mk ?_ ?_; conv => whnf) | (apply QStepH.go; conv => whnf) | (refine Both.lit_true ?_; conv => whnf) | (refine Both.lit_false ?_; conv => whnf) | (apply QStep.go; conv => whnf) | (refine Need.mk ?_ ?_; (focus (first | omega | exact ⟨by omega, by omega⟩ | rfl | exact ⟨rfl, rfl⟩ | exact ⟨rfl, by omega, by omega⟩ | exact ⟨by omega, by omega, by omega⟩ | exact ⟨rfl, Nat.le_of_ble_eq_true rfl⟩ | exact Nat.le_of_ble_eq_true rfl | (refine ⟨rfl, rfl, ?_⟩; simp [isFar, ofV0, CV.up, SV.renL, SV.ren] <;> fail) | (refine ⟨rfl, Nat.le_of_ble_eq_true rfl, ?_⟩; simp [isFar, ofV0, CV.up, SV.renL, SV.ren] <;> fail) | (simp only [List.length_append, List.length_drop, List.length_take, List.length_replicate, List.length_map]; omega) | (simp <;> fail))); conv => whnf) | (refine ⟨_, rfl, ?_⟩; conv => whnf)))
      refine ⟨_, _, WeakV.auto ?_, h⟩
      (repeat' ((conv => whnf); first | exact True.intro | (refine And.intro ?_ ?_)))
      all_goals first | rfl | exact .eq rfl
    have hn1 : ¬ cnt ≤ 1 := by omega
    have hlt := lft_lt (n := cnt) (by omega)
    have hpos := lft_pos cnt
    rw [upP_two hn1] at h
    revert h hlt hpos
    generalize hg : lft cnt = g
    intro h hlt hpos
    (conv => whnf)
    (repeat (first | (exact Out.same; conv => whnf) | (exact Out1.same; conv => whnf) | (refine QAnd.mk ?_ ?_; conv => whnf) | (apply QStepH.go; conv => whnf) | (refine Both.lit_true ?_; conv => whnf) | (refine Both.lit_false ?_; conv => whnf) | (apply QStep.go; conv => whnf) | (refine Need.mk ?_ ?_; (focus (first | omega | exact ⟨by omega, by omega⟩ | rfl | exact ⟨rfl, rfl⟩ | exact ⟨rfl, by omega, by omega⟩ | exact ⟨by omega, by omega, by omega⟩ | exact ⟨rfl, Nat.le_of_ble_eq_true rfl⟩ | exact Nat.le_of_ble_eq_true rfl | (refine ⟨rfl, rfl, ?_⟩; simp [isFar, ofV0, CV.up, SV.renL, SV.ren] <;> fail) | (refine ⟨rfl, Nat.le_of_ble_eq_true rfl, ?_⟩; simp [isFar, ofV0, CV.up, SV.renL, SV.ren] <;> fail) | (simp only [List.length_append, List.length_drop, List.length_take, List.length_replicate, List.length_map]; omega) | (simp <;> fail))); conv => whnf) | (refine ⟨_, rfl, ?_⟩; conv => whnf)))
    refine CallVC.auto (lft_k.gl (G := [(0, y0 :: cs0)])) ⟨cnt, rfl, by omega, by omega, ?_⟩
    rw [hg]
    (conv => whnf)
    (repeat (first | (exact Out.same; conv => whnf) | (exact Out1.same; conv => whnf) | (refine QAnd.mk ?_ ?_; conv => whnf) | (apply QStepH.go; conv => whnf) | (refine Both.lit_true ?_; conv => whnf) | (refine Both.lit_false ?_; conv => whnf) | (apply QStep.go; conv => whnf) | (refine Need.mk ?_ ?_; (focus (first | omega | exact ⟨by omega, by omega⟩ | rfl | exact ⟨rfl, rfl⟩ | exact ⟨rfl, by omega, by omega⟩ | exact ⟨by omega, by omega, by omega⟩ | exact ⟨rfl, Nat.le_of_ble_eq_true rfl⟩ | exact Nat.le_of_ble_eq_true rfl | (refine ⟨rfl, rfl, ?_⟩; simp [isFar, ofV0, CV.up, SV.renL, SV.ren] <;> fail) | (refine ⟨rfl, Nat.le_of_ble_eq_true rfl, ?_⟩; simp [isFar, ofV0, CV.up, SV.renL, SV.ren] <;> fail) | (simp only [List.length_append, List.length_drop, List.length_take, List.length_replicate, List.length_map]; omega) | (simp <;> fail))); conv => whnf) | (refine ⟨_, rfl, ?_⟩; conv => whnf)))
    refine Both.dec (fun hz => ?_) (fun hnz => ?_)
    · have hp0 : p = [] := List.eq_nil_of_length_eq_zero (by omega)
      subst hp0
      (conv => whnf)
      (repeat (first | (exact Out.same; conv => whnf) | (exact Out1.same; conv => whnf) | (refine QAnd.mk ?_ ?_; conv => whnf) | (apply QStepH.go; conv => whnf) | (refine Both.lit_true ?_; conv => whnf) | (refine Both.lit_false ?_; conv => whnf) | (apply QStep.go; conv => whnf) | (refine Need.mk ?_ ?_; (focus (first | omega | exact ⟨by omega, by omega⟩ | rfl | exact ⟨rfl, rfl⟩ | exact ⟨rfl, by omega, by omega⟩ | exact ⟨by omega, by omega, by omega⟩ | exact ⟨rfl, Nat.le_of_ble_eq_true rfl⟩ | exact Nat.le_of_ble_eq_true rfl | (refine ⟨rfl, rfl, ?_⟩; simp [isFar, ofV0, CV.up, SV.renL, SV.ren] <;> fail) | (refine ⟨rfl, Nat.le_of_ble_eq_true rfl, ?_⟩; simp [isFar, ofV0, CV.up, SV.renL, SV.ren] <;> fail) | (simp only [List.length_append, List.length_drop, List.length_take, List.length_replicate, List.length_map]; omega) | (simp <;> fail))); conv => whnf) | (refine ⟨_, rfl, ?_⟩; conv => whnf) | (refine Both.of_false ?_ ?_; (focus (first | rfl | (simp <;> fail))); conv => whnf) | (refine Both.of_true ?_ ?_; (focus (first | rfl | (simp <;> fail))); conv => whnf)))
      refine ⟨_, _, WeakV.auto ?_, h⟩
      (repeat' ((conv => whnf); first | exact True.intro | (refine And.intro ?_ ?_)))
      all_goals first | rfl | exact .eq rfl
    obtain ⟨p', b, rfl⟩ := snoc_of (q := p) (by omega)
    rw [last_snoc, drop_snoc] at h
    dsimp only at h
    have hll : (p' ++ [b]).length = p'.length + 1 := by simp
    have hw : IntKind.i64.wrap ((((p' ++ [b]).length : Nat) : Int) - 1) = ((p'.length : Nat) : Int) := by rw [hll, wrap_i64 (by omega) (by omega)]; omega
    have hat := strs_last p' b
    have hcut := strs_cut p' b
    have hin : (1 : Nat) = 1 ∧ 0 ≤ IntKind.i64.wrap ((((p' ++ [b]).length : Nat) : Int) - 1) ∧ IntKind.i64.wrap ((((p' ++ [b]).length : Nat) : Int) - 1) < (((p' ++ [b]).length : Nat) : Int) := ⟨rfl, by rw [hw]; omega, by rw [hw, hll]; omega⟩
    have hat2 : (strs (p' ++ [b]))[(IntKind.i64.wrap ((((p' ++ [b]).length : Nat) : Int) - 1)).toNat]? = some (CV.str b) := by rw [hw]; exact hat
    (conv => whnf)
    (repeat (first | (refine Need.mk hin ?_; conv => whnf) | (refine ⟨_, hat2, ?_⟩; conv => whnf) | (exact Out.same; conv => whnf) | (exact Out1.same; conv => whnf) | (refine QAnd.mk ?_ ?_; conv => whnf) | (apply QStepH.go; conv => whnf) | (refine Both.lit_true ?_; conv => whnf) | (refine Both.lit_false ?_; conv => whnf) | (apply QStep.go; conv => whnf) | (refine Need.mk ?_ ?_; (focus (first | omega | exact ⟨by omega, by omega⟩ | rfl | exact ⟨rfl, rfl⟩ | exact ⟨rfl, by omega, by omega⟩ | exact ⟨by omega, by omega, by omega⟩ | exact ⟨rfl, Nat.le_of_ble_eq_true rfl⟩ | exact Nat.le_of_ble_eq_true rfl | (refine ⟨rfl, rfl, ?_⟩; simp [isFar, ofV0, CV.up, SV.renL, SV.ren] <;> fail) | (refine ⟨rfl, Nat.le_of_ble_eq_true rfl, ?_⟩; simp [isFar, ofV0, CV.up, SV.renL, SV.ren] <;> fail) | (simp only [List.length_append, List.length_drop, List.length_take, List.length_replicate, List.length_map]; omega) | (simp <;> fail))); conv => whnf) | (refine ⟨_, rfl, ?_⟩; conv => whnf)))
    refine Both.dec_not (fun hbad => ?_) (fun hgood => ?_)
    · have hb : ¬ b.length = 32 := by omega
      rw [if_neg hb] at h
      (conv => whnf)
      (repeat (first | (exact Out.same; conv => whnf) | (exact Out1.same; conv => whnf) | (refine QAnd.mk ?_ ?_; conv => whnf) | (apply QStepH.go; conv => whnf) | (refine Both.lit_true ?_; conv => whnf) | (refine Both.lit_false ?_; conv => whnf) | (apply QStep.go; conv => whnf) | (refine Need.mk ?_ ?_; (focus (first | omega | exact ⟨by omega, by omega⟩ | rfl | exact ⟨rfl, rfl⟩ | exact ⟨rfl, by omega, by omega⟩ | exact ⟨by omega, by omega, by omega⟩ | exact ⟨rfl, Nat.le_of_ble_eq_true rfl⟩ | exact Nat.le_of_ble_eq_true rfl | (refine ⟨rfl, rfl, ?_⟩; simp [isFar, ofV0, CV.up, SV.renL, SV.ren] <;> fail) | (refine ⟨rfl, Nat.le_of_ble_eq_true rfl, ?_⟩; simp [isFar, ofV0, CV.up, SV.renL, SV.ren] <;> fail) | (simp only [List.length_append, List.length_drop, List.length_take, List.length_replicate, List.length_map]; omega) | (simp <;> fail))); conv => whnf) | (refine ⟨_, rfl, ?_⟩; conv => whnf) | (refine Both.of_false ?_ ?_; (focus (first | rfl | (simp <;> fail))); conv => whnf) | (refine Both.of_true ?_ ?_; (focus (first | rfl | (simp <;> fail))); conv => whnf)))
      refine ⟨_, _, WeakV.auto ?_, h⟩
      (repeat' ((conv => whnf); first | exact True.intro | (refine And.intro ?_ ?_)))
      all_goals first | rfl | exact .eq rfl
    have hb : b.length = 32 := by omega
    rw [if_pos hb] at h
    have hct : ti9.size = 1 ∧ (0 : Int) ≤ 0 ∧ (0 : Int) ≤ IntKind.i64.wrap ((((p' ++ [b]).length : Nat) : Int) - 1) ∧ IntKind.i64.wrap ((((p' ++ [b]).length : Nat) : Int) - 1) ≤ (((p' ++ [b]).length : Nat) : Int) := ⟨rfl, by omega, by rw [hw]; omega, by rw [hw, hll]; omega⟩
    have hcs : ((strs (p' ++ [b])).take ((IntKind.i64.wrap ((((p' ++ [b]).length : Nat) : Int) - 1)).toNat * 1)).drop ((0 : Int).toNat * 1) = strs p' := by rw [hw]; exact hcut
    have hcn : (IntKind.i64.wrap ((((p' ++ [b]).length : Nat) : Int) - 1)).toNat - (0 : Int).toNat = p'.length := by rw [hw]; rfl
    (conv => whnf)
    (repeat (first | (refine Need.mk hin ?_; conv => whnf) | (refine ⟨_, hat2, ?_⟩; conv => whnf) | (refine Need.mk hct ?_; conv => whnf) | (exact Out.same; conv => whnf) | (exact Out1.same; conv => whnf) | (refine QAnd.mk ?_ ?_; conv => whnf) | (apply QStepH.go; conv => whnf) | (refine Both.lit_true ?_; conv => whnf) | (refine Both.lit_false ?_; conv => whnf) | (apply QStep.go; conv => whnf) | (refine Need.mk ?_ ?_; (focus (first | omega | exact ⟨by omega, by omega⟩ | rfl | exact ⟨rfl, rfl⟩ | exact ⟨rfl, by omega, by omega⟩ | exact ⟨by omega, by omega, by omega⟩ | exact ⟨rfl, Nat.le_of_ble_eq_true rfl⟩ | exact Nat.le_of_ble_eq_true rfl | (refine ⟨rfl, rfl, ?_⟩; simp [isFar, ofV0, CV.up, SV.renL, SV.ren] <;> fail) | (refine ⟨rfl, Nat.le_of_ble_eq_true rfl, ?_⟩; simp [isFar, ofV0, CV.up, SV.renL, SV.ren] <;> fail) | (simp only [List.length_append, List.length_drop, List.length_take, List.length_replicate, List.length_map]; omega) | (simp <;> fail))); conv => whnf) | (refine ⟨_, rfl, ?_⟩; conv => whnf)))
    refine Both.dec (fun hlo => ?_) (fun hhi => ?_)
    · rw [if_pos (by omega)] at h
      dsimp only at h
      have hsh := up_short (txLeaf (k, v)) g g i p' ok (Nat.le_refl _)
      (conv => whnf)
      (repeat (first | (exact Out.same; conv => whnf) | (exact Out1.same; conv => whnf) | (refine QAnd.mk ?_ ?_; conv => whnf) | (apply QStepH.go; conv => whnf) | (refine Both.lit_true ?_; conv => whnf) | (refine Both.lit_false ?_; conv => whnf) | (apply QStep.go; conv => whnf) | (refine Need.mk ?_ ?_; (focus (first | omega | exact ⟨by omega, by omega⟩ | rfl | exact ⟨rfl, rfl⟩ | exact ⟨rfl, by omega, by omega⟩ | exact ⟨by omega, by omega, by omega⟩ | exact ⟨rfl, Nat.le_of_ble_eq_true rfl⟩ | exact Nat.le_of_ble_eq_true rfl | (refine ⟨rfl, rfl, ?_⟩; simp [isFar, ofV0, CV.up, SV.renL, SV.ren] <;> fail) | (refine ⟨rfl, Nat.le_of_ble_eq_true rfl, ?_⟩; simp [isFar, ofV0, CV.up, SV.renL, SV.ren] <;> fail) | (simp only [List.length_append, List.length_drop, List.length_take, List.length_replicate, List.length_map]; omega) | (simp <;> fail))); conv => whnf) | (refine ⟨_, rfl, ?_⟩; conv => whnf)))
      refine CallClo.auto ih ⟨i, g, p', rfl, rfl, by omega, by omega, by omega, hcs, hcn, by omega, hk, hv, ?_⟩
      revert h hsh
      generalize upP (txLeaf (k, v)) g i p' ok = r
      intro h hsh
      (conv => whnf)
      (repeat (first | (exact Out.same; conv => whnf) | (exact Out1.same; conv => whnf) | (refine QAnd.mk ?_ ?_; conv => whnf) | (apply QStepH.go; conv => whnf) | (refine Both.lit_true ?_; conv => whnf) | (refine Both.lit_false ?_; conv => whnf) | (apply QStep.go; conv => whnf) | (refine Need.mk ?_ ?_; (focus (first | omega | exact ⟨by omega, by omega⟩ | rfl | exact ⟨rfl, rfl⟩ | exact ⟨rfl, by omega, by omega⟩ | exact ⟨by omega, by omega, by omega⟩ | exact ⟨rfl, Nat.le_of_ble_eq_true rfl⟩ | exact Nat.le_of_ble_eq_true rfl | (refine ⟨rfl, rfl, ?_⟩; simp [isFar, ofV0, CV.up, SV.renL, SV.ren] <;> fail) | (refine ⟨rfl, Nat.le_of_ble_eq_true rfl, ?_⟩; simp [isFar, ofV0, CV.up, SV.renL, SV.ren] <;> fail) | (simp only [List.length_append, List.length_drop, List.length_take, List.length_replicate, List.length_map]; omega) | (simp <;> fail))); conv => whnf) | (refine ⟨_, rfl, ?_⟩; conv => whnf)))
      refine CallVC.auto (both_k hK) (Need.mk ⟨by omega, by omega⟩ ?_)
      (conv => whnf)
      (repeat (first | (exact Out.same; conv => whnf) | (exact Out1.same; conv => whnf) | (refine QAnd.mk ?_ ?_; conv => whnf) | (apply QStepH.go; conv => whnf) | (refine Both.lit_true ?_; conv => whnf) | (refine Both.lit_false ?_; conv => whnf) | (apply QStep.go; conv => whnf) | (refine Need.mk ?_ ?_; (focus (first | omega | exact ⟨by omega, by omega⟩ | rfl | exact ⟨rfl, rfl⟩ | exact ⟨rfl, by omega, by omega⟩ | exact ⟨by omega, by omega, by omega⟩ | exact ⟨rfl, Nat.le_of_ble_eq_true rfl⟩ | exact Nat.le_of_ble_eq_true rfl | (refine ⟨rfl, rfl, ?_⟩; simp [isFar, ofV0, CV.up, SV.renL, SV.ren] <;> fail) | (refine ⟨rfl, Nat.le_of_ble_eq_true rfl, ?_⟩; simp [isFar, ofV0, CV.up, SV.renL, SV.ren] <;> fail) | (simp only [List.length_append, List.length_drop, List.length_take, List.length_replicate, List.length_map]; omega) | (simp <;> fail))); conv => whnf) | (refine ⟨_, rfl, ?_⟩; conv => whnf)))
      refine ⟨_, _, WeakV.auto ?_, h⟩
      (repeat' ((conv => whnf); first | exact True.intro | (refine And.intro ?_ ?_)))
      all_goals first | rfl | exact .eq rfl
    · rw [if_neg (by omega)] at h
      dsimp only at h
      have hsh := up_short (txLeaf (k, v)) (cnt - g) (cnt - g) (i - g) p' ok (Nat.le_refl _)
      have w1 : IntKind.i64.wrap ((i : Int) - (g : Int)) = ((i - g : Nat) : Int) := by rw [wrap_i64 (by omega) (by omega)]; omega
      have w2 : IntKind.i64.wrap ((cnt : Int) - (g : Int)) = ((cnt - g : Nat) : Int) := by rw [wrap_i64 (by omega) (by omega)]; omega
      (conv => whnf)
      (repeat (first | (exact Out.same; conv => whnf) | (exact Out1.same; conv => whnf) | (refine QAnd.mk ?_ ?_; conv => whnf) | (apply QStepH.go; conv => whnf) | (refine Both.lit_true ?_; conv => whnf) | (refine Both.lit_false ?_; conv => whnf) | (apply QStep.go; conv => whnf) | (refine Need.mk ?_ ?_; (focus (first | omega | exact ⟨by omega, by omega⟩ | rfl | exact ⟨rfl, rfl⟩ | exact ⟨rfl, by omega, by omega⟩ | exact ⟨by omega, by omega, by omega⟩ | exact ⟨rfl, Nat.le_of_ble_eq_true rfl⟩ | exact Nat.le_of_ble_eq_true rfl | (refine ⟨rfl, rfl, ?_⟩; simp [isFar, ofV0, CV.up, SV.renL, SV.ren] <;> fail) | (refine ⟨rfl, Nat.le_of_ble_eq_true rfl, ?_⟩; simp [isFar, ofV0, CV.up, SV.renL, SV.ren] <;> fail) | (simp only [List.length_append, List.length_drop, List.length_take, List.length_replicate, List.length_map]; omega) | (simp <;> fail))); conv => whnf) | (refine ⟨_, rfl, ?_⟩; conv => whnf)))
      refine CallClo.auto ih ⟨i - g, cnt - g, p', w1, w2, by omega, by omega, by omega, hcs, hcn, by omega, hk, hv, ?_⟩
      revert h hsh
      generalize upP (txLeaf (k, v)) (cnt - g) (i - g) p' ok = r
      intro h hsh
      (conv => whnf)
      (repeat (first | (exact Out.same; conv => whnf) | (exact Out1.same; conv => whnf) | (refine QAnd.mk ?_ ?_; conv => whnf) | (apply QStepH.go; conv => whnf) | (refine Both.lit_true ?_; conv => whnf) | (refine Both.lit_false ?_; conv => whnf) | (apply QStep.go; conv => whnf) | (refine Need.mk ?_ ?_; (focus (first | omega | exact ⟨by omega, by omega⟩ | rfl | exact ⟨rfl, rfl⟩ | exact ⟨rfl, by omega, by omega⟩ | exact ⟨by omega, by omega, by omega⟩ | exact ⟨rfl, Nat.le_of_ble_eq_true rfl⟩ | exact Nat.le_of_ble_eq_true rfl | (refine ⟨rfl, rfl, ?_⟩; simp [isFar, ofV0, CV.up, SV.renL, SV.ren] <;> fail) | (refine ⟨rfl, Nat.le_of_ble_eq_true rfl, ?_⟩; simp [isFar, ofV0, CV.up, SV.renL, SV.ren] <;> fail) | (simp only [List.length_append, List.length_drop, List.length_take, List.length_replicate, List.length_map]; omega) | (simp <;> fail))); conv => whnf) | (refine ⟨_, rfl, ?_⟩; conv => whnf)))
      refine CallVC.auto (both_k hK) (Need.mk ⟨by omega, by omega⟩ ?_)
      (conv => whnf)
      (repeat (first | (exact Out.same; conv => whnf) | (exact Out1.same; conv => whnf) | (refine QAnd.mk ?_ ?_; conv => whnf) | (apply QStepH.go; conv => whnf) | (refine Both.lit_true ?_; conv => whnf) | (refine Both.lit_false ?_; conv => whnf) | (apply QStep.go; conv => whnf) | (refine Need.mk ?_ ?_; (focus (first | omega | exact ⟨by omega, by omega⟩ | rfl | exact ⟨rfl, rfl⟩ | exact ⟨rfl, by omega, by omega⟩ | exact ⟨by omega, by omega, by omega⟩ | exact ⟨rfl, Nat.le_of_ble_eq_true rfl⟩ | exact Nat.le_of_ble_eq_true rfl | (refine ⟨rfl, rfl, ?_⟩; simp [isFar, ofV0, CV.up, SV.renL, SV.ren] <;> fail) | (refine ⟨rfl, Nat.le_of_ble_eq_true rfl, ?_⟩; simp [isFar, ofV0, CV.up, SV.renL, SV.ren] <;> fail) | (simp only [List.length_append, List.length_drop, List.length_take, List.length_replicate, List.length_map]; omega) | (simp <;> fail))); conv => whnf) | (refine ⟨_, rfl, ?_⟩; conv => whnf)))
      refine ⟨_, _, WeakV.auto ?_, h⟩
      (repeat' ((conv => whnf); first | exact True.intro | (refine And.intro ?_ ?_)))
      all_goals first | rfl | exact .eq rfl
theorem up_k {y0 : CV} {cs0 : List CV} (hK : KAt y0 cs0) (m : Nat) : Contract Tryd.prog [(0, y0 :: cs0)] 36 (upS m) := ⟨⟨⟨_, rfl, rfl, rfl⟩⟩, up_c hK m⟩
/-- Whether a leaf stands where it may; to what it climbs, in the program. -/
abbrev okL (x c : Int) : Prop := 1 ≤ c ∧ c ≤ 4096 ∧ 0 ≤ x ∧ x < c
def climbP (lf : Bs) (x c : Int) (p : List Bs) : Bs × Bool :=
  if okL x c ∧ (upP lf c.toNat x.toNat p true).2.2 = true ∧ (upP lf c.toNat x.toNat p true).2.1 = [] then (shaD (topX c.toNat (upP lf c.toNat x.toNat p true).1), true) else ([], false)
def climbS : Spec := fun args H Q => match args, H with
  | [.agg [.int .i64 x, .int .i64 c, .str k, .str v, .sl 1 n cs false]], [] => ∃ p : List Bs, cs = strs p ∧ n = p.length ∧ p.length < 1000000 ∧ k.length < 50000 ∧ v.length < 50000 ∧
      Q (.tuple [.str (climbP (txLeaf (k, v)) x c p).1, .bool (climbP (txLeaf (k, v)) x c p).2]) []
  | _, _ => False
theorem climb_c {y0 : CV} {cs0 : List CV} (hK : KAt y0 cs0) : Meets Tryd.prog [(0, y0 :: cs0)] 24 climbS := by
  refine meets_of Γok Tryd.func24 rfl ?_
  intro args H Q h
  unfold climbS at h
  split at h
  case h_2 => exact h.elim
  rename_i x c k v n cs
  obtain ⟨p, rfl, rfl, hp, hk, hv, h⟩ := h
  have out : ¬ okL x c → Q (.tuple [.str [], .bool false]) [] := fun h9 => by
    unfold climbP at h
    rw [if_neg (fun h => h9 h.1)] at h
    exact h
  unfold okL at out
  (refine sx_sound Γok _ ?_; conv => whnf)
  (repeat (first | (exact Out.same; conv => whnf) | (exact Out1.same; conv => whnf) | (refine QAnd.mk ?_ ?_; conv => whnf) | (apply QStepH.go; conv => whnf) | (refine Both.lit_true ?_; conv => whnf) | (refine Both.lit_false ?_; conv => whnf) | (apply QStep.go; conv => whnf) | (refine Need.mk ?_ ?_; (focus (first | omega | exact ⟨by omega, by omega⟩ | rfl | exact ⟨rfl, rfl⟩ | exact ⟨rfl, by omega, by omega⟩ | exact ⟨by omega, by omega, by omega⟩ | exact ⟨rfl, Nat.le_of_ble_eq_true rfl⟩ | exact Nat.le_of_ble_eq_true rfl | (refine ⟨rfl, rfl, ?_⟩; simp [isFar, ofV0, CV.up, SV.renL, SV.ren] <;> fail) | (refine ⟨rfl, Nat.le_of_ble_eq_true rfl, ?_⟩; simp [isFar, ofV0, CV.up, SV.renL, SV.ren] <;> fail) | (simp only [List.length_append, List.length_drop, List.length_take, List.length_replicate, List.length_map]; omega) | (simp <;> fail))); conv => whnf) | (refine ⟨_, rfl, ?_⟩; conv => whnf)))
  refine Both.dec (fun b1 => ?_) (fun b1 => ?_)
  · (conv => whnf)
    (repeat (first | (exact Out.same; conv => whnf) | (exact Out1.same; conv => whnf) | (refine QAnd.mk ?_ ?_; conv => whnf) | (apply QStepH.go; conv => whnf) | (refine Both.lit_true ?_; conv => whnf) | (refine Both.lit_false ?_; conv => whnf) | (apply QStep.go; conv => whnf) | (refine Need.mk ?_ ?_; (focus (first | omega | exact ⟨by omega, by omega⟩ | rfl | exact ⟨rfl, rfl⟩ | exact ⟨rfl, by omega, by omega⟩ | exact ⟨by omega, by omega, by omega⟩ | exact ⟨rfl, Nat.le_of_ble_eq_true rfl⟩ | exact Nat.le_of_ble_eq_true rfl | (refine ⟨rfl, rfl, ?_⟩; simp [isFar, ofV0, CV.up, SV.renL, SV.ren] <;> fail) | (refine ⟨rfl, Nat.le_of_ble_eq_true rfl, ?_⟩; simp [isFar, ofV0, CV.up, SV.renL, SV.ren] <;> fail) | (simp only [List.length_append, List.length_drop, List.length_take, List.length_replicate, List.length_map]; omega) | (simp <;> fail))); conv => whnf) | (refine ⟨_, rfl, ?_⟩; conv => whnf) | (refine Both.of_false ?_ ?_; (focus (first | rfl | (simp <;> fail))); conv => whnf) | (refine Both.of_true ?_ ?_; (focus (first | rfl | (simp <;> fail))); conv => whnf)))
    refine ⟨_, _, WeakV.auto ?_, out (by omega)⟩
    (repeat' ((conv => whnf); first | exact True.intro | (refine And.intro ?_ ?_)))
    all_goals first | rfl | exact .eq rfl
  (conv => whnf)
  (repeat (first | (exact Out.same; conv => whnf) | (exact Out1.same; conv => whnf) | (refine QAnd.mk ?_ ?_; conv => whnf) | (apply QStepH.go; conv => whnf) | (refine Both.lit_true ?_; conv => whnf) | (refine Both.lit_false ?_; conv => whnf) | (apply QStep.go; conv => whnf) | (refine Need.mk ?_ ?_; (focus (first | omega | exact ⟨by omega, by omega⟩ | rfl | exact ⟨rfl, rfl⟩ | exact ⟨rfl, by omega, by omega⟩ | exact ⟨by omega, by omega, by omega⟩ | exact ⟨rfl, Nat.le_of_ble_eq_true rfl⟩ | exact Nat.le_of_ble_eq_true rfl | (refine ⟨rfl, rfl, ?_⟩; simp [isFar, ofV0, CV.up, SV.renL, SV.ren] <;> fail) | (refine ⟨rfl, Nat.le_of_ble_eq_true rfl, ?_⟩; simp [isFar, ofV0, CV.up, SV.renL, SV.ren] <;> fail) | (simp only [List.length_append, List.length_drop, List.length_take, List.length_replicate, List.length_map]; omega) | (simp <;> fail))); conv => whnf) | (refine ⟨_, rfl, ?_⟩; conv => whnf)))
  refine Both.dec (fun b2 => ?_) (fun b2 => ?_)
  · (conv => whnf)
    (repeat (first | (exact Out.same; conv => whnf) | (exact Out1.same; conv => whnf) | (refine QAnd.mk ?_ ?_; conv => whnf) | (apply QStepH.go; conv => whnf) | (refine Both.lit_true ?_; conv => whnf) | (refine Both.lit_false ?_; conv => whnf) | (apply QStep.go; conv => whnf) | (refine Need.mk ?_ ?_; (focus (first | omega | exact ⟨by omega, by omega⟩ | rfl | exact ⟨rfl, rfl⟩ | exact ⟨rfl, by omega, by omega⟩ | exact ⟨by omega, by omega, by omega⟩ | exact ⟨rfl, Nat.le_of_ble_eq_true rfl⟩ | exact Nat.le_of_ble_eq_true rfl | (refine ⟨rfl, rfl, ?_⟩; simp [isFar, ofV0, CV.up, SV.renL, SV.ren] <;> fail) | (refine ⟨rfl, Nat.le_of_ble_eq_true rfl, ?_⟩; simp [isFar, ofV0, CV.up, SV.renL, SV.ren] <;> fail) | (simp only [List.length_append, List.length_drop, List.length_take, List.length_replicate, List.length_map]; omega) | (simp <;> fail))); conv => whnf) | (refine ⟨_, rfl, ?_⟩; conv => whnf) | (refine Both.of_false ?_ ?_; (focus (first | rfl | (simp <;> fail))); conv => whnf) | (refine Both.of_true ?_ ?_; (focus (first | rfl | (simp <;> fail))); conv => whnf)))
    refine ⟨_, _, WeakV.auto ?_, out (by omega)⟩
    (repeat' ((conv => whnf); first | exact True.intro | (refine And.intro ?_ ?_)))
    all_goals first | rfl | exact .eq rfl
  (conv => whnf)
  (repeat (first | (exact Out.same; conv => whnf) | (exact Out1.same; conv => whnf) | (refine QAnd.mk ?_ ?_; conv => whnf) | (apply QStepH.go; conv => whnf) | (refine Both.lit_true ?_; conv => whnf) | (refine Both.lit_false ?_; conv => whnf) | (apply QStep.go; conv => whnf) | (refine Need.mk ?_ ?_; (focus (first | omega | exact ⟨by omega, by omega⟩ | rfl | exact ⟨rfl, rfl⟩ | exact ⟨rfl, by omega, by omega⟩ | exact ⟨by omega, by omega, by omega⟩ | exact ⟨rfl, Nat.le_of_ble_eq_true rfl⟩ | exact Nat.le_of_ble_eq_true rfl | (refine ⟨rfl, rfl, ?_⟩; simp [isFar, ofV0, CV.up, SV.renL, SV.ren] <;> fail) | (refine ⟨rfl, Nat.le_of_ble_eq_true rfl, ?_⟩; simp [isFar, ofV0, CV.up, SV.renL, SV.ren] <;> fail) | (simp only [List.length_append, List.length_drop, List.length_take, List.length_replicate, List.length_map]; omega) | (simp <;> fail))); conv => whnf) | (refine ⟨_, rfl, ?_⟩; conv => whnf)))
  refine Both.dec (fun b3 => ?_) (fun b3 => ?_)
  · (conv => whnf)
    (repeat (first | (exact Out.same; conv => whnf) | (exact Out1.same; conv => whnf) | (refine QAnd.mk ?_ ?_; conv => whnf) | (apply QStepH.go; conv => whnf) | (refine Both.lit_true ?_; conv => whnf) | (refine Both.lit_false ?_; conv => whnf) | (apply QStep.go; conv => whnf) | (refine Need.mk ?_ ?_; (focus (first | omega | exact ⟨by omega, by omega⟩ | rfl | exact ⟨rfl, rfl⟩ | exact ⟨rfl, by omega, by omega⟩ | exact ⟨by omega, by omega, by omega⟩ | exact ⟨rfl, Nat.le_of_ble_eq_true rfl⟩ | exact Nat.le_of_ble_eq_true rfl | (refine ⟨rfl, rfl, ?_⟩; simp [isFar, ofV0, CV.up, SV.renL, SV.ren] <;> fail) | (refine ⟨rfl, Nat.le_of_ble_eq_true rfl, ?_⟩; simp [isFar, ofV0, CV.up, SV.renL, SV.ren] <;> fail) | (simp only [List.length_append, List.length_drop, List.length_take, List.length_replicate, List.length_map]; omega) | (simp <;> fail))); conv => whnf) | (refine ⟨_, rfl, ?_⟩; conv => whnf) | (refine Both.of_false ?_ ?_; (focus (first | rfl | (simp <;> fail))); conv => whnf) | (refine Both.of_true ?_ ?_; (focus (first | rfl | (simp <;> fail))); conv => whnf)))
    refine ⟨_, _, WeakV.auto ?_, out (by omega)⟩
    (repeat' ((conv => whnf); first | exact True.intro | (refine And.intro ?_ ?_)))
    all_goals first | rfl | exact .eq rfl
  (conv => whnf)
  (repeat (first | (exact Out.same; conv => whnf) | (exact Out1.same; conv => whnf) | (refine QAnd.mk ?_ ?_; conv => whnf) | (apply QStepH.go; conv => whnf) | (refine Both.lit_true ?_; conv => whnf) | (refine Both.lit_false ?_; conv => whnf) | (apply QStep.go; conv => whnf) | (refine Need.mk ?_ ?_; (focus (first | omega | exact ⟨by omega, by omega⟩ | rfl | exact ⟨rfl, rfl⟩ | exact ⟨rfl, by omega, by omega⟩ | exact ⟨by omega, by omega, by omega⟩ | exact ⟨rfl, Nat.le_of_ble_eq_true rfl⟩ | exact Nat.le_of_ble_eq_true rfl | (refine ⟨rfl, rfl, ?_⟩; simp [isFar, ofV0, CV.up, SV.renL, SV.ren] <;> fail) | (refine ⟨rfl, Nat.le_of_ble_eq_true rfl, ?_⟩; simp [isFar, ofV0, CV.up, SV.renL, SV.ren] <;> fail) | (simp only [List.length_append, List.length_drop, List.length_take, List.length_replicate, List.length_map]; omega) | (simp <;> fail))); conv => whnf) | (refine ⟨_, rfl, ?_⟩; conv => whnf)))
  refine Both.dec (fun b4 => ?_) (fun b4 => ?_)
  · (conv => whnf)
    (repeat (first | (exact Out.same; conv => whnf) | (exact Out1.same; conv => whnf) | (refine QAnd.mk ?_ ?_; conv => whnf) | (apply QStepH.go; conv => whnf) | (refine Both.lit_true ?_; conv => whnf) | (refine Both.lit_false ?_; conv => whnf) | (apply QStep.go; conv => whnf) | (refine Need.mk ?_ ?_; (focus (first | omega | exact ⟨by omega, by omega⟩ | rfl | exact ⟨rfl, rfl⟩ | exact ⟨rfl, by omega, by omega⟩ | exact ⟨by omega, by omega, by omega⟩ | exact ⟨rfl, Nat.le_of_ble_eq_true rfl⟩ | exact Nat.le_of_ble_eq_true rfl | (refine ⟨rfl, rfl, ?_⟩; simp [isFar, ofV0, CV.up, SV.renL, SV.ren] <;> fail) | (refine ⟨rfl, Nat.le_of_ble_eq_true rfl, ?_⟩; simp [isFar, ofV0, CV.up, SV.renL, SV.ren] <;> fail) | (simp only [List.length_append, List.length_drop, List.length_take, List.length_replicate, List.length_map]; omega) | (simp <;> fail))); conv => whnf) | (refine ⟨_, rfl, ?_⟩; conv => whnf) | (refine Both.of_false ?_ ?_; (focus (first | rfl | (simp <;> fail))); conv => whnf) | (refine Both.of_true ?_ ?_; (focus (first | rfl | (simp <;> fail))); conv => whnf)))
    refine ⟨_, _, WeakV.auto ?_, out (by omega)⟩
    (repeat' ((conv => whnf); first | exact True.intro | (refine And.intro ?_ ?_)))
    all_goals first | rfl | exact .eq rfl
  have hL : okL x c := by unfold okL; omega
  have hx : x = ((x.toNat : Nat) : Int) := by omega
  have hc : c = ((c.toNat : Nat) : Int) := by omega
  have hxc : x.toNat < c.toNat := by omega
  have hc60 : c.toNat < 60000 := by omega
  have hsh := up_short (txLeaf (k, v)) c.toNat c.toNat x.toNat p true (Nat.le_refl _)
  unfold climbP at h
  (conv => whnf)
  (repeat (first | (exact Out.same; conv => whnf) | (exact Out1.same; conv => whnf) | (refine QAnd.mk ?_ ?_; conv => whnf) | (apply QStepH.go; conv => whnf) | (refine Both.lit_true ?_; conv => whnf) | (refine Both.lit_false ?_; conv => whnf) | (apply QStep.go; conv => whnf) | (refine Need.mk ?_ ?_; (focus (first | omega | exact ⟨by omega, by omega⟩ | rfl | exact ⟨rfl, rfl⟩ | exact ⟨rfl, by omega, by omega⟩ | exact ⟨by omega, by omega, by omega⟩ | exact ⟨rfl, Nat.le_of_ble_eq_true rfl⟩ | exact Nat.le_of_ble_eq_true rfl | (refine ⟨rfl, rfl, ?_⟩; simp [isFar, ofV0, CV.up, SV.renL, SV.ren] <;> fail) | (refine ⟨rfl, Nat.le_of_ble_eq_true rfl, ?_⟩; simp [isFar, ofV0, CV.up, SV.renL, SV.ren] <;> fail) | (simp only [List.length_append, List.length_drop, List.length_take, List.length_replicate, List.length_map]; omega) | (simp <;> fail))); conv => whnf) | (refine ⟨_, rfl, ?_⟩; conv => whnf) | (refine Both.of_false ?_ ?_; (focus (first | rfl | (simp <;> fail))); conv => whnf) | (refine Both.of_true ?_ ?_; (focus (first | rfl | (simp <;> fail))); conv => whnf)))
  refine CallClo.auto (up_k hK c.toNat) ⟨x.toNat, c.toNat, p, hx, hc, hxc, Nat.le_refl _, hc60, rfl, rfl, hp, hk, hv, ?_⟩
  revert h hsh
  generalize upP (txLeaf (k, v)) c.toNat x.toNat p true = r
  obtain ⟨d, q, o⟩ := r
  intro h hsh
  dsimp only at h hsh
  (conv => whnf)
  (repeat (first | (exact Out.same; conv => whnf) | (exact Out1.same; conv => whnf) | (refine QAnd.mk ?_ ?_; conv => whnf) | (apply QStepH.go; conv => whnf) | (refine Both.lit_true ?_; conv => whnf) | (refine Both.lit_false ?_; conv => whnf) | (apply QStep.go; conv => whnf) | (refine Need.mk ?_ ?_; (focus (first | omega | exact ⟨by omega, by omega⟩ | rfl | exact ⟨rfl, rfl⟩ | exact ⟨rfl, by omega, by omega⟩ | exact ⟨by omega, by omega, by omega⟩ | exact ⟨rfl, Nat.le_of_ble_eq_true rfl⟩ | exact Nat.le_of_ble_eq_true rfl | (refine ⟨rfl, rfl, ?_⟩; simp [isFar, ofV0, CV.up, SV.renL, SV.ren] <;> fail) | (refine ⟨rfl, Nat.le_of_ble_eq_true rfl, ?_⟩; simp [isFar, ofV0, CV.up, SV.renL, SV.ren] <;> fail) | (simp only [List.length_append, List.length_drop, List.length_take, List.length_replicate, List.length_map]; omega) | (simp <;> fail))); conv => whnf) | (refine ⟨_, rfl, ?_⟩; conv => whnf)))
  cases o with
  | false =>
    rw [if_neg (fun h => by cases h.2.1)] at h
    (repeat (first | (exact Out.same; conv => whnf) | (exact Out1.same; conv => whnf) | (refine QAnd.mk ?_ ?_; conv => whnf) | (apply QStepH.go; conv => whnf) | (refine Both.lit_true ?_; conv => whnf) | (refine Both.lit_false ?_; conv => whnf) | (apply QStep.go; conv => whnf) | (refine Need.mk ?_ ?_; (focus (first | omega | exact ⟨by omega, by omega⟩ | rfl | exact ⟨rfl, rfl⟩ | exact ⟨rfl, by omega, by omega⟩ | exact ⟨by omega, by omega, by omega⟩ | exact ⟨rfl, Nat.le_of_ble_eq_true rfl⟩ | exact Nat.le_of_ble_eq_true rfl | (refine ⟨rfl, rfl, ?_⟩; simp [isFar, ofV0, CV.up, SV.renL, SV.ren] <;> fail) | (refine ⟨rfl, Nat.le_of_ble_eq_true rfl, ?_⟩; simp [isFar, ofV0, CV.up, SV.renL, SV.ren] <;> fail) | (simp only [List.length_append, List.length_drop, List.length_take, List.length_replicate, List.length_map]; omega) | (simp <;> fail))); conv => whnf) | (refine ⟨_, rfl, ?_⟩; conv => whnf) | (refine Both.of_false ?_ ?_; (focus (first | rfl | (simp <;> fail))); conv => whnf) | (refine Both.of_true ?_ ?_; (focus (first | rfl | (simp <;> fail))); conv => whnf)))
    refine ⟨_, _, WeakV.auto ?_, h⟩
    (repeat' ((conv => whnf); first | exact True.intro | (refine And.intro ?_ ?_)))
    all_goals first | rfl | exact .eq rfl
  | true =>
    (repeat (first | (exact Out.same; conv => whnf) | (exact Out1.same; conv => whnf) | (refine QAnd.mk ?_ ?_; conv => whnf) | (apply QStepH.go; conv => whnf) | (refine Both.lit_true ?_; conv => whnf) | (refine Both.lit_false ?_; conv => whnf) | (apply QStep.go; conv => whnf) | (refine Need.mk ?_ ?_; (focus (first | omega | exact ⟨by omega, by omega⟩ | rfl | exact ⟨rfl, rfl⟩ | exact ⟨rfl, by omega, by omega⟩ | exact ⟨by omega, by omega, by omega⟩ | exact ⟨rfl, Nat.le_of_ble_eq_true rfl⟩ | exact Nat.le_of_ble_eq_true rfl | (refine ⟨rfl, rfl, ?_⟩; simp [isFar, ofV0, CV.up, SV.renL, SV.ren] <;> fail) | (refine ⟨rfl, Nat.le_of_ble_eq_true rfl, ?_⟩; simp [isFar, ofV0, CV.up, SV.renL, SV.ren] <;> fail) | (simp only [List.length_append, List.length_drop, List.length_take, List.length_replicate, List.length_map]; omega) | (simp <;> fail))); conv => whnf) | (refine ⟨_, rfl, ?_⟩; conv => whnf)))
    refine Both.dec (fun hl => ?_) (fun hl => ?_)
    · have hl1 : (0 : Int) < ((q.length : Nat) : Int) := hl
      rw [if_neg (fun h => by rw [h.2.2] at hl1; exact absurd hl1 (by decide))] at h
      (conv => whnf)
      (repeat (first | (exact Out.same; conv => whnf) | (exact Out1.same; conv => whnf) | (refine QAnd.mk ?_ ?_; conv => whnf) | (apply QStepH.go; conv => whnf) | (refine Both.lit_true ?_; conv => whnf) | (refine Both.lit_false ?_; conv => whnf) | (apply QStep.go; conv => whnf) | (refine Need.mk ?_ ?_; (focus (first | omega | exact ⟨by omega, by omega⟩ | rfl | exact ⟨rfl, rfl⟩ | exact ⟨rfl, by omega, by omega⟩ | exact ⟨by omega, by omega, by omega⟩ | exact ⟨rfl, Nat.le_of_ble_eq_true rfl⟩ | exact Nat.le_of_ble_eq_true rfl | (refine ⟨rfl, rfl, ?_⟩; simp [isFar, ofV0, CV.up, SV.renL, SV.ren] <;> fail) | (refine ⟨rfl, Nat.le_of_ble_eq_true rfl, ?_⟩; simp [isFar, ofV0, CV.up, SV.renL, SV.ren] <;> fail) | (simp only [List.length_append, List.length_drop, List.length_take, List.length_replicate, List.length_map]; omega) | (simp <;> fail))); conv => whnf) | (refine ⟨_, rfl, ?_⟩; conv => whnf) | (refine Both.of_false ?_ ?_; (focus (first | rfl | (simp <;> fail))); conv => whnf) | (refine Both.of_true ?_ ?_; (focus (first | rfl | (simp <;> fail))); conv => whnf)))
      refine ⟨_, _, WeakV.auto ?_, h⟩
      (repeat' ((conv => whnf); first | exact True.intro | (refine And.intro ?_ ?_)))
      all_goals first | rfl | exact .eq rfl
    · have hl1 : ¬ (0 : Int) < ((q.length : Nat) : Int) := hl
      have hq : q = [] := List.eq_nil_of_length_eq_zero (by omega)
      rw [if_pos ⟨hL, rfl, hq⟩] at h
      have hn : -9223372036854775808 ≤ c ∧ c ≤ 9223372036854775807 ∧ d.length < 50000 := ⟨by omega, by omega, by omega⟩
      (conv => whnf)
      (repeat (first | (exact Out.same; conv => whnf) | (exact Out1.same; conv => whnf) | (refine QAnd.mk ?_ ?_; conv => whnf) | (apply QStepH.go; conv => whnf) | (refine Both.lit_true ?_; conv => whnf) | (refine Both.lit_false ?_; conv => whnf) | (apply QStep.go; conv => whnf) | (refine Need.mk ?_ ?_; (focus (first | omega | exact ⟨by omega, by omega⟩ | rfl | exact ⟨rfl, rfl⟩ | exact ⟨rfl, by omega, by omega⟩ | exact ⟨by omega, by omega, by omega⟩ | exact ⟨rfl, Nat.le_of_ble_eq_true rfl⟩ | exact Nat.le_of_ble_eq_true rfl | (refine ⟨rfl, rfl, ?_⟩; simp [isFar, ofV0, CV.up, SV.renL, SV.ren] <;> fail) | (refine ⟨rfl, Nat.le_of_ble_eq_true rfl, ?_⟩; simp [isFar, ofV0, CV.up, SV.renL, SV.ren] <;> fail) | (simp only [List.length_append, List.length_drop, List.length_take, List.length_replicate, List.length_map]; omega) | (simp <;> fail))); conv => whnf) | (refine ⟨_, rfl, ?_⟩; conv => whnf) | (refine Both.of_false ?_ ?_; (focus (first | rfl | (simp <;> fail))); conv => whnf) | (refine Both.of_true ?_ ?_; (focus (first | rfl | (simp <;> fail))); conv => whnf)))
      refine CallVC.auto (top_k hK) (Need.mk hn ?_)
      (conv => whnf)
      (repeat (first | (exact Out.same; conv => whnf) | (exact Out1.same; conv => whnf) | (refine QAnd.mk ?_ ?_; conv => whnf) | (apply QStepH.go; conv => whnf) | (refine Both.lit_true ?_; conv => whnf) | (refine Both.lit_false ?_; conv => whnf) | (apply QStep.go; conv => whnf) | (refine Need.mk ?_ ?_; (focus (first | omega | exact ⟨by omega, by omega⟩ | rfl | exact ⟨rfl, rfl⟩ | exact ⟨rfl, by omega, by omega⟩ | exact ⟨by omega, by omega, by omega⟩ | exact ⟨rfl, Nat.le_of_ble_eq_true rfl⟩ | exact Nat.le_of_ble_eq_true rfl | (refine ⟨rfl, rfl, ?_⟩; simp [isFar, ofV0, CV.up, SV.renL, SV.ren] <;> fail) | (refine ⟨rfl, Nat.le_of_ble_eq_true rfl, ?_⟩; simp [isFar, ofV0, CV.up, SV.renL, SV.ren] <;> fail) | (simp only [List.length_append, List.length_drop, List.length_take, List.length_replicate, List.length_map]; omega) | (simp <;> fail))); conv => whnf) | (refine ⟨_, rfl, ?_⟩; conv => whnf)))
      refine ⟨_, _, WeakV.auto ?_, h⟩
      (repeat' ((conv => whnf); first | exact True.intro | (refine And.intro ?_ ?_)))
      all_goals first | rfl | exact .eq rfl
theorem climb_k {y0 : CV} {cs0 : List CV} (hK : KAt y0 cs0) : Contract Tryd.prog [(0, y0 :: cs0)] 24 climbS := ⟨⟨⟨_, rfl, rfl, rfl⟩⟩, climb_c hK⟩
end Go.LX
end
section
set_option maxRecDepth 100000
set_option maxHeartbeats 2000000
set_option autoImplicit false
set_option linter.unusedVariables false
set_option linter.unusedSimpArgs false
namespace Go.LX
open Go.Proofs

/-! ## The document's climb -/
def depS (m : Nat) : Spec := fun args H Q => match args, H with
  | [.int .i64 x, .int .i64 y], [] => ∃ i n : Nat, x = i ∧ y = n ∧ i < n ∧ n ≤ m ∧ n < 60000 ∧ Q (.int .i64 ((depP i n : Nat) : Int)) []
  | _, _ => False
theorem rdep_c : ∀ m, Meets Tryd.prog [] 38 (depS m)
  | 0 => by
    intro args H Q h
    unfold depS at h
    split at h
    case h_2 => exact h.elim
    obtain ⟨i, n, _, _, h1, h2, _⟩ := h
    omega
  | m + 1 => by
    have ih : Contract Tryd.prog [] 38 (depS m) := ⟨⟨⟨_, rfl, rfl, rfl⟩⟩, rdep_c m⟩
    refine meets_of Γok Tryd.func38 rfl ?_
    intro args H Q h
    unfold depS at h
    split at h
    case h_2 => exact h.elim
    obtain ⟨i, n, rfl, rfl, hi, hm, h60, h⟩ := h
    (refine sx_sound Γok _ ?_; conv => whnf)
    (repeat (first | (exact Out.same; conv => whnf) | (exact Out1.same; conv => whnf) | (refine QAnd.mk ?_ ?_; conv => whnf) | (apply QStepH.go; conv => whnf) | (refine Both.lit_true ?_; conv => whnf) | (refine Both.lit_false ?_; conv => whnf) | (apply QStep.go; conv => whnf) | (refine Need.mk ?_ ?_; (focus (first | omega | exact ⟨by omega, by omega⟩ | rfl | exact ⟨rfl, rfl⟩ | exact ⟨rfl, by omega, by omega⟩ | exact ⟨by omega, by omega, by omega⟩ | exact ⟨rfl, Nat.le_of_ble_eq_true rfl⟩ | exact Nat.le_of_ble_eq_true rfl | (refine ⟨rfl, rfl, ?_⟩; simp [isFar, ofV0, CV.up, SV.renL, SV.ren] <;> fail) | (refine ⟨rfl, Nat.le_of_ble_eq_true rfl, ?_⟩; simp [isFar, ofV0, CV.up, SV.renL, SV.ren] <;> fail) | (simp only [List.length_append, List.length_drop, List.length_take, List.length_replicate, List.length_map]; omega) | (simp <;> fail))); conv => whnf) | (refine ⟨_, rfl, ?_⟩; conv => whnf)))
    refine Both.dec (fun hone => ?_) (fun hmore => ?_)
    · rw [depP_one (show n ≤ 1 by omega)] at h
      (conv => whnf)
      (repeat (first | (exact Out.same; conv => whnf) | (exact Out1.same; conv => whnf) | (refine QAnd.mk ?_ ?_; conv => whnf) | (apply QStepH.go; conv => whnf) | (refine Both.lit_true ?_; conv => whnf) | (refine Both.lit_false ?_; conv => whnf) | (apply QStep.go; conv => whnf) | (refine Need.mk ?_ ?_; (focus (first | omega | exact ⟨by omega, by omega⟩ | rfl | exact ⟨rfl, rfl⟩ | exact ⟨rfl, by omega, by omega⟩ | exact ⟨by omega, by omega, by omega⟩ | exact ⟨rfl, Nat.le_of_ble_eq_true rfl⟩ | exact Nat.le_of_ble_eq_true rfl | (refine ⟨rfl, rfl, ?_⟩; simp [isFar, ofV0, CV.up, SV.renL, SV.ren] <;> fail) | (refine ⟨rfl, Nat.le_of_ble_eq_true rfl, ?_⟩; simp [isFar, ofV0, CV.up, SV.renL, SV.ren] <;> fail) | (simp only [List.length_append, List.length_drop, List.length_take, List.length_replicate, List.length_map]; omega) | (simp <;> fail))); conv => whnf) | (refine ⟨_, rfl, ?_⟩; conv => whnf)))
      exact ⟨_, _, WeakV.drop rfl, h⟩
    have hn1 : ¬ n ≤ 1 := by omega
    have hlt := lft_lt (n := n) (by omega)
    have hpos := lft_pos n
    rw [depP_two hn1] at h
    revert h hlt hpos
    generalize hg : lft n = g
    intro h hlt hpos
    (conv => whnf)
    (repeat (first | (exact Out.same; conv => whnf) | (exact Out1.same; conv => whnf) | (refine QAnd.mk ?_ ?_; conv => whnf) | (apply QStepH.go; conv => whnf) | (refine Both.lit_true ?_; conv => whnf) | (refine Both.lit_false ?_; conv => whnf) | (apply QStep.go; conv => whnf) | (refine Need.mk ?_ ?_; (focus (first | omega | exact ⟨by omega, by omega⟩ | rfl | exact ⟨rfl, rfl⟩ | exact ⟨rfl, by omega, by omega⟩ | exact ⟨by omega, by omega, by omega⟩ | exact ⟨rfl, Nat.le_of_ble_eq_true rfl⟩ | exact Nat.le_of_ble_eq_true rfl | (refine ⟨rfl, rfl, ?_⟩; simp [isFar, ofV0, CV.up, SV.renL, SV.ren] <;> fail) | (refine ⟨rfl, Nat.le_of_ble_eq_true rfl, ?_⟩; simp [isFar, ofV0, CV.up, SV.renL, SV.ren] <;> fail) | (simp only [List.length_append, List.length_drop, List.length_take, List.length_replicate, List.length_map]; omega) | (simp <;> fail))); conv => whnf) | (refine ⟨_, rfl, ?_⟩; conv => whnf)))
    refine CallVC.auto rlft_k ⟨n, rfl, by omega, by omega, ?_⟩
    rw [hg]
    (conv => whnf)
    (repeat (first | (exact Out.same; conv => whnf) | (exact Out1.same; conv => whnf) | (refine QAnd.mk ?_ ?_; conv => whnf) | (apply QStepH.go; conv => whnf) | (refine Both.lit_true ?_; conv => whnf) | (refine Both.lit_false ?_; conv => whnf) | (apply QStep.go; conv => whnf) | (refine Need.mk ?_ ?_; (focus (first | omega | exact ⟨by omega, by omega⟩ | rfl | exact ⟨rfl, rfl⟩ | exact ⟨rfl, by omega, by omega⟩ | exact ⟨by omega, by omega, by omega⟩ | exact ⟨rfl, Nat.le_of_ble_eq_true rfl⟩ | exact Nat.le_of_ble_eq_true rfl | (refine ⟨rfl, rfl, ?_⟩; simp [isFar, ofV0, CV.up, SV.renL, SV.ren] <;> fail) | (refine ⟨rfl, Nat.le_of_ble_eq_true rfl, ?_⟩; simp [isFar, ofV0, CV.up, SV.renL, SV.ren] <;> fail) | (simp only [List.length_append, List.length_drop, List.length_take, List.length_replicate, List.length_map]; omega) | (simp <;> fail))); conv => whnf) | (refine ⟨_, rfl, ?_⟩; conv => whnf)))
    refine Both.dec (fun hlo => ?_) (fun hhi => ?_)
    · rw [if_pos (by omega)] at h
      have hle := dep_le g g i (Nat.le_refl _)
      have hw : IntKind.i64.wrap (1 + ((depP i g : Nat) : Int)) = ((1 + depP i g : Nat) : Int) := by rw [wrap_i64 (by omega) (by omega)]; rfl
      (conv => whnf)
      (repeat (first | (exact Out.same; conv => whnf) | (exact Out1.same; conv => whnf) | (refine QAnd.mk ?_ ?_; conv => whnf) | (apply QStepH.go; conv => whnf) | (refine Both.lit_true ?_; conv => whnf) | (refine Both.lit_false ?_; conv => whnf) | (apply QStep.go; conv => whnf) | (refine Need.mk ?_ ?_; (focus (first | omega | exact ⟨by omega, by omega⟩ | rfl | exact ⟨rfl, rfl⟩ | exact ⟨rfl, by omega, by omega⟩ | exact ⟨by omega, by omega, by omega⟩ | exact ⟨rfl, Nat.le_of_ble_eq_true rfl⟩ | exact Nat.le_of_ble_eq_true rfl | (refine ⟨rfl, rfl, ?_⟩; simp [isFar, ofV0, CV.up, SV.renL, SV.ren] <;> fail) | (refine ⟨rfl, Nat.le_of_ble_eq_true rfl, ?_⟩; simp [isFar, ofV0, CV.up, SV.renL, SV.ren] <;> fail) | (simp only [List.length_append, List.length_drop, List.length_take, List.length_replicate, List.length_map]; omega) | (simp <;> fail))); conv => whnf) | (refine ⟨_, rfl, ?_⟩; conv => whnf)))
      refine CallVC.auto ih ⟨i, g, rfl, rfl, by omega, by omega, by omega, ?_⟩
      (conv => whnf)
      (repeat (first | (exact Out.same; conv => whnf) | (exact Out1.same; conv => whnf) | (refine QAnd.mk ?_ ?_; conv => whnf) | (apply QStepH.go; conv => whnf) | (refine Both.lit_true ?_; conv => whnf) | (refine Both.lit_false ?_; conv => whnf) | (apply QStep.go; conv => whnf) | (refine Need.mk ?_ ?_; (focus (first | omega | exact ⟨by omega, by omega⟩ | rfl | exact ⟨rfl, rfl⟩ | exact ⟨rfl, by omega, by omega⟩ | exact ⟨by omega, by omega, by omega⟩ | exact ⟨rfl, Nat.le_of_ble_eq_true rfl⟩ | exact Nat.le_of_ble_eq_true rfl | (refine ⟨rfl, rfl, ?_⟩; simp [isFar, ofV0, CV.up, SV.renL, SV.ren] <;> fail) | (refine ⟨rfl, Nat.le_of_ble_eq_true rfl, ?_⟩; simp [isFar, ofV0, CV.up, SV.renL, SV.ren] <;> fail) | (simp only [List.length_append, List.length_drop, List.length_take, List.length_replicate, List.length_map]; omega) | (simp <;> fail))); conv => whnf) | (refine ⟨_, rfl, ?_⟩; conv => whnf)))
      exact ⟨_, _, WeakV.drop (congrArg (SV.int .i64) hw), h⟩
    · rw [if_neg (by omega)] at h
      have hle := dep_le (n - g) (n - g) (i - g) (Nat.le_refl _)
      have hw : IntKind.i64.wrap (1 + ((depP (i - g) (n - g) : Nat) : Int)) = ((1 + depP (i - g) (n - g) : Nat) : Int) := by rw [wrap_i64 (by omega) (by omega)]; rfl
      have w1 : IntKind.i64.wrap ((i : Int) - (g : Int)) = ((i - g : Nat) : Int) := by rw [wrap_i64 (by omega) (by omega)]; omega
      have w2 : IntKind.i64.wrap ((n : Int) - (g : Int)) = ((n - g : Nat) : Int) := by rw [wrap_i64 (by omega) (by omega)]; omega
      (conv => whnf)
      (repeat (first | (exact Out.same; conv => whnf) | (exact Out1.same; conv => whnf) | (refine QAnd.mk ?_ ?_; conv => whnf) | (apply QStepH.go; conv => whnf) | (refine Both.lit_true ?_; conv => whnf) | (refine Both.lit_false ?_; conv => whnf) | (apply QStep.go; conv => whnf) | (refine Need.mk ?_ ?_; (focus (first | omega | exact ⟨by omega, by omega⟩ | rfl | exact ⟨rfl, rfl⟩ | exact ⟨rfl, by omega, by omega⟩ | exact ⟨by omega, by omega, by omega⟩ | exact ⟨rfl, Nat.le_of_ble_eq_true rfl⟩ | exact Nat.le_of_ble_eq_true rfl | (refine ⟨rfl, rfl, ?_⟩; simp [isFar, ofV0, CV.up, SV.renL, SV.ren] <;> fail) | (refine ⟨rfl, Nat.le_of_ble_eq_true rfl, ?_⟩; simp [isFar, ofV0, CV.up, SV.renL, SV.ren] <;> fail) | (simp only [List.length_append, List.length_drop, List.length_take, List.length_replicate, List.length_map]; omega) | (simp <;> fail))); conv => whnf) | (refine ⟨_, rfl, ?_⟩; conv => whnf)))
      refine CallVC.auto ih ⟨i - g, n - g, w1, w2, by omega, by omega, by omega, ?_⟩
      (conv => whnf)
      (repeat (first | (exact Out.same; conv => whnf) | (exact Out1.same; conv => whnf) | (refine QAnd.mk ?_ ?_; conv => whnf) | (apply QStepH.go; conv => whnf) | (refine Both.lit_true ?_; conv => whnf) | (refine Both.lit_false ?_; conv => whnf) | (apply QStep.go; conv => whnf) | (refine Need.mk ?_ ?_; (focus (first | omega | exact ⟨by omega, by omega⟩ | rfl | exact ⟨rfl, rfl⟩ | exact ⟨rfl, by omega, by omega⟩ | exact ⟨by omega, by omega, by omega⟩ | exact ⟨rfl, Nat.le_of_ble_eq_true rfl⟩ | exact Nat.le_of_ble_eq_true rfl | (refine ⟨rfl, rfl, ?_⟩; simp [isFar, ofV0, CV.up, SV.renL, SV.ren] <;> fail) | (refine ⟨rfl, Nat.le_of_ble_eq_true rfl, ?_⟩; simp [isFar, ofV0, CV.up, SV.renL, SV.ren] <;> fail) | (simp only [List.length_append, List.length_drop, List.length_take, List.length_replicate, List.length_map]; omega) | (simp <;> fail))); conv => whnf) | (refine ⟨_, rfl, ?_⟩; conv => whnf)))
      exact ⟨_, _, WeakV.drop (congrArg (SV.int .i64) hw), h⟩
theorem rdep_k (m : Nat) : Contract Tryd.prog [] 38 (depS m) := ⟨⟨⟨_, rfl, rfl, rfl⟩⟩, rdep_c m⟩
def rupS (m : Nat) : Spec := fun args H Q => match args with
  | [.ptr 0 0, .agg [.int .i64 c1, .int .i64 c2, .str k, .str v, .sl 1 n cs false], .int .i64 x, .int .i64 y] => inB H fun T => ∃ (i cnt : Nat) (p : List Bs), x = i ∧ y = cnt ∧ i < cnt ∧ cnt ≤ m ∧ cnt < 60000 ∧ cs = strs p ∧ n = p.length ∧ p.length < 1000000 ∧ depP i cnt ≤ p.length ∧ (∀ s ∈ p, s.length = 32) ∧ k.length < 50000 ∧ v.length < 50000 ∧
      Q (.str (upD (txLeaf (k, v)) p i cnt)) (bkO (upT (txLeaf (k, v)) p i cnt T))
  | _ => False
theorem rup_c : ∀ m, Meets Tryd.prog [] 39 (rupS m)
  | 0 => by
    intro args H Q h
    unfold rupS at h
    split at h
    case h_2 => exact h.elim
    obtain ⟨T, rfl, i, cnt, p, _, _, h1, h2, _⟩ := inB_out h
    omega
  | m + 1 => by
    have ih : Contract Tryd.prog [] 39 (rupS m) := ⟨⟨⟨_, rfl, rfl, rfl⟩⟩, rup_c m⟩
    refine meets_of Γok Tryd.func39 rfl ?_
    intro args H Q h
    unfold rupS at h
    split at h
    case h_2 => exact h.elim
    rename_i c1 c2 k v n cs x y
    obtain ⟨T, rfl, i, cnt, p, rfl, rfl, hi, hm, h60, rfl, rfl, hp, hd, h32, hk, hv, h⟩ := inB_out h
    (refine sx_sound Γok _ ?_; conv => whnf)
    (repeat (first | (exact Out.same; conv => whnf) | (exact Out1.same; conv => whnf) | (refine QAnd.mk ?_ ?_; conv => whnf) | (apply QStepH.go; conv => whnf) | (refine Both.lit_true ?_; conv => whnf) | (refine Both.lit_false ?_; conv => whnf) | (apply QStep.go; conv => whnf) | (refine Need.mk ?_ ?_; (focus (first | omega | exact ⟨by omega, by omega⟩ | rfl | exact ⟨rfl, rfl⟩ | exact ⟨rfl, by omega, by omega⟩ | exact ⟨by omega, by omega, by omega⟩ | exact ⟨rfl, Nat.le_of_ble_eq_true rfl⟩ | exact Nat.le_of_ble_eq_true rfl | (refine ⟨rfl, rfl, ?_⟩; simp [isFar, ofV0, CV.up, SV.renL, SV.ren] <;> fail) | (refine ⟨rfl, Nat.le_of_ble_eq_true rfl, ?_⟩; simp [isFar, ofV0, CV.up, SV.renL, SV.ren] <;> fail) | (simp only [List.length_append, List.length_drop, List.length_take, List.length_replicate, List.length_map]; omega) | (simp <;> fail))); conv => whnf) | (refine ⟨_, rfl, ?_⟩; conv => whnf)))
    refine Both.dec (fun hone => ?_) (fun hmore => ?_)
    · rw [upD_one (show cnt ≤ 1 by omega), upT_one (show cnt ≤ 1 by omega)] at h
      (conv => whnf)
      (repeat (first | (exact Out.same; conv => whnf) | (exact Out1.same; conv => whnf) | (refine QAnd.mk ?_ ?_; conv => whnf) | (apply QStepH.go; conv => whnf) | (refine Both.lit_true ?_; conv => whnf) | (refine Both.lit_false ?_; conv => whnf) | (apply QStep.go; conv => whnf) | (refine Need.mk ?_ ?_; (focus (first | omega | exact ⟨by omega, by omega⟩ | rfl | exact ⟨rfl, rfl⟩ | exact ⟨rfl, by omega, by omega⟩ | exact ⟨by omega, by omega, by omega⟩ | exact ⟨rfl, Nat.le_of_ble_eq_true rfl⟩ | exact Nat.le_of_ble_eq_true rfl | (refine ⟨rfl, rfl, ?_⟩; simp [isFar, ofV0, CV.up, SV.renL, SV.ren] <;> fail) | (refine ⟨rfl, Nat.le_of_ble_eq_true rfl, ?_⟩; simp [isFar, ofV0, CV.up, SV.renL, SV.ren] <;> fail) | (simp only [List.length_append, List.length_drop, List.length_take, List.length_replicate, List.length_map]; omega) | (simp <;> fail))); conv => whnf) | (refine ⟨_, rfl, ?_⟩; conv => whnf)))
      refine CallVC.auto rleaf_k (inB_mk ⟨hk, hv, ?_⟩)
      (conv => whnf)
      (repeat (first | (exact Out.same; conv => whnf) | (exact Out1.same; conv => whnf) | (refine QAnd.mk ?_ ?_; conv => whnf) | (apply QStepH.go; conv => whnf) | (refine Both.lit_true ?_; conv => whnf) | (refine Both.lit_false ?_; conv => whnf) | (apply QStep.go; conv => whnf) | (refine Need.mk ?_ ?_; (focus (first | omega | exact ⟨by omega, by omega⟩ | rfl | exact ⟨rfl, rfl⟩ | exact ⟨rfl, by omega, by omega⟩ | exact ⟨by omega, by omega, by omega⟩ | exact ⟨rfl, Nat.le_of_ble_eq_true rfl⟩ | exact Nat.le_of_ble_eq_true rfl | (refine ⟨rfl, rfl, ?_⟩; simp [isFar, ofV0, CV.up, SV.renL, SV.ren] <;> fail) | (refine ⟨rfl, Nat.le_of_ble_eq_true rfl, ?_⟩; simp [isFar, ofV0, CV.up, SV.renL, SV.ren] <;> fail) | (simp only [List.length_append, List.length_drop, List.length_take, List.length_replicate, List.length_map]; omega) | (simp <;> fail))); conv => whnf) | (refine ⟨_, rfl, ?_⟩; conv => whnf)))
      refine ⟨_, _, WeakV.auto ?_, h⟩
      (repeat' ((conv => whnf); first | exact True.intro | (refine And.intro ?_ ?_)))
      all_goals first | rfl | exact .eq rfl
    have hn1 : ¬ cnt ≤ 1 := by omega
    have hlt := lft_lt (n := cnt) (by omega)
    have hpos := lft_pos cnt
    have hdd := depP_two (i := i) hn1
    rw [upD_two hn1, upT_two hn1] at h
    have hdl : depP i cnt - 1 < p.length := by
      have : 0 < depP i cnt := by rw [hdd]; split <;> omega
      omega
    have hb32 : (p.getD (depP i cnt - 1) []).length = 32 := by
      rw [List.getD_eq_getElem?_getD, List.getElem?_eq_getElem hdl]
      exact h32 _ (List.getElem_mem _)
    have hat := strs_at p hdl
    have hle := dep_le cnt cnt i (Nat.le_refl _)
    have hd0 : 0 < depP i cnt := by rw [hdd]; split <;> omega
    have hwd : IntKind.i64.wrap (((depP i cnt : Nat) : Int) - 1) = ((depP i cnt - 1 : Nat) : Int) := by rw [wrap_i64 (by omega) (by omega)]; omega
    have hat2 : (strs p)[(IntKind.i64.wrap (((depP i cnt : Nat) : Int) - 1)).toNat]? = some (CV.str (p.getD (depP i cnt - 1) [])) := by rw [hwd]; exact hat
    have hin : (1 : Nat) = 1 ∧ 0 ≤ IntKind.i64.wrap (((depP i cnt : Nat) : Int) - 1) ∧ IntKind.i64.wrap (((depP i cnt : Nat) : Int) - 1) < ((p.length : Nat) : Int) := ⟨rfl, by rw [hwd]; omega, by rw [hwd]; omega⟩
    have hd1 : i < lft cnt → depP i (lft cnt) ≤ p.length := fun h => by rw [hdd, if_pos h] at hd; omega
    have hd2 : ¬ i < lft cnt → depP (i - lft cnt) (cnt - lft cnt) ≤ p.length := fun h => by rw [hdd, if_neg h] at hd; omega
    revert h hlt hpos hat2 hb32 hd1 hd2
    generalize p.getD (depP i cnt - 1) [] = b
    generalize hg : lft cnt = g
    intro h hlt hpos hb32 hat2 hd1 hd2
    clear hat hdd
    (conv => whnf)
    (repeat (first | (exact Out.same; conv => whnf) | (exact Out1.same; conv => whnf) | (refine QAnd.mk ?_ ?_; conv => whnf) | (apply QStepH.go; conv => whnf) | (refine Both.lit_true ?_; conv => whnf) | (refine Both.lit_false ?_; conv => whnf) | (apply QStep.go; conv => whnf) | (refine Need.mk ?_ ?_; (focus (first | omega | exact ⟨by omega, by omega⟩ | rfl | exact ⟨rfl, rfl⟩ | exact ⟨rfl, by omega, by omega⟩ | exact ⟨by omega, by omega, by omega⟩ | exact ⟨rfl, Nat.le_of_ble_eq_true rfl⟩ | exact Nat.le_of_ble_eq_true rfl | (refine ⟨rfl, rfl, ?_⟩; simp [isFar, ofV0, CV.up, SV.renL, SV.ren] <;> fail) | (refine ⟨rfl, Nat.le_of_ble_eq_true rfl, ?_⟩; simp [isFar, ofV0, CV.up, SV.renL, SV.ren] <;> fail) | (simp only [List.length_append, List.length_drop, List.length_take, List.length_replicate, List.length_map]; omega) | (simp <;> fail))); conv => whnf) | (refine ⟨_, rfl, ?_⟩; conv => whnf)))
    refine CallVC.auto rlft_k ⟨cnt, rfl, by omega, by omega, ?_⟩
    rw [hg]
    (conv => whnf)
    (refine DrawVC.any Γok (by kernel_rfl) (by kernel_rfl) (by kernel_rfl) (by rfl) ?_; conv => whnf)
    (repeat (first | (refine CallVC.auto (rdep_k cnt) ⟨i, cnt, rfl, rfl, hi, Nat.le_refl _, h60, ?_⟩; conv => whnf) | (refine Need.mk hin ?_; conv => whnf) | (refine ⟨_, hat2, ?_⟩; conv => whnf) | (exact Out.same; conv => whnf) | (exact Out1.same; conv => whnf) | (refine QAnd.mk ?_ ?_; conv => whnf) | (apply QStepH.go; conv => whnf) | (refine Both.lit_true ?_; conv => whnf) | (refine Both.lit_false ?_; conv => whnf) | (apply QStep.go; conv => whnf) | (refine Need.mk ?_ ?_; (focus (first | omega | exact ⟨by omega, by omega⟩ | rfl | exact ⟨rfl, rfl⟩ | exact ⟨rfl, by omega, by omega⟩ | exact ⟨by omega, by omega, by omega⟩ | exact ⟨rfl, Nat.le_of_ble_eq_true rfl⟩ | exact Nat.le_of_ble_eq_true rfl | (refine ⟨rfl, rfl, ?_⟩; simp [isFar, ofV0, CV.up, SV.renL, SV.ren] <;> fail) | (refine ⟨rfl, Nat.le_of_ble_eq_true rfl, ?_⟩; simp [isFar, ofV0, CV.up, SV.renL, SV.ren] <;> fail) | (simp only [List.length_append, List.length_drop, List.length_take, List.length_replicate, List.length_map]; omega) | (simp <;> fail))); conv => whnf) | (refine ⟨_, rfl, ?_⟩; conv => whnf)))
    refine Both.dec (fun hlo => ?_) (fun hhi => ?_)
    · have hlo' : i < g := by omega
      rw [if_pos hlo', if_pos hlo'] at h
      have hdu := upD_len (txLeaf (k, v)) p i g
      have s1 : ([1] : Bs).length + (upD (txLeaf (k, v)) p i g).length ≤ 9223372036854775807 := by rw [hdu]; decide
      have s2 : ([1] ++ upD (txLeaf (k, v)) p i g : Bs).length + b.length ≤ 9223372036854775807 := by rw [List.length_append, hdu, hb32]; decide
      have s3 : ([1] ++ upD (txLeaf (k, v)) p i g ++ b : Bs).length < 900000 := by rw [List.length_append, List.length_append, hdu, hb32]; decide
      (conv => whnf)
      (repeat (first | (refine CallVC.auto ih (inB_mk ⟨i, g, p, rfl, rfl, hlo', by omega, by omega, rfl, rfl, hp, hd1 hlo', h32, hk, hv, ?_⟩); conv => whnf) | (refine Need.mk s1 ?_; conv => whnf) | (refine Need.mk s2 ?_; conv => whnf) | (refine CallVC.auto bsum_k (inB_mk ⟨s3, ?_⟩); conv => whnf) | (exact Out.same; conv => whnf) | (exact Out1.same; conv => whnf) | (refine QAnd.mk ?_ ?_; conv => whnf) | (apply QStepH.go; conv => whnf) | (refine Both.lit_true ?_; conv => whnf) | (refine Both.lit_false ?_; conv => whnf) | (apply QStep.go; conv => whnf) | (refine Need.mk ?_ ?_; (focus (first | omega | exact ⟨by omega, by omega⟩ | rfl | exact ⟨rfl, rfl⟩ | exact ⟨rfl, by omega, by omega⟩ | exact ⟨by omega, by omega, by omega⟩ | exact ⟨rfl, Nat.le_of_ble_eq_true rfl⟩ | exact Nat.le_of_ble_eq_true rfl | (refine ⟨rfl, rfl, ?_⟩; simp [isFar, ofV0, CV.up, SV.renL, SV.ren] <;> fail) | (refine ⟨rfl, Nat.le_of_ble_eq_true rfl, ?_⟩; simp [isFar, ofV0, CV.up, SV.renL, SV.ren] <;> fail) | (simp only [List.length_append, List.length_drop, List.length_take, List.length_replicate, List.length_map]; omega) | (simp <;> fail))); conv => whnf) | (refine ⟨_, rfl, ?_⟩; conv => whnf)))
      refine ⟨_, _, WeakV.auto ?_, h⟩
      (repeat' ((conv => whnf); first | exact True.intro | (refine And.intro ?_ ?_)))
      all_goals first | rfl | exact .eq rfl
    · have hhi' : ¬ i < g := by omega
      rw [if_neg hhi', if_neg hhi'] at h
      have hdu := upD_len (txLeaf (k, v)) p (i - g) (cnt - g)
      have s1 : ([1] : Bs).length + b.length ≤ 9223372036854775807 := by rw [hb32]; decide
      have s2 : ([1] ++ b : Bs).length + (upD (txLeaf (k, v)) p (i - g) (cnt - g)).length ≤ 9223372036854775807 := by rw [List.length_append, hdu, hb32]; decide
      have s3 : ([1] ++ b ++ upD (txLeaf (k, v)) p (i - g) (cnt - g) : Bs).length < 900000 := by rw [List.length_append, List.length_append, hdu, hb32]; decide
      have w1 : IntKind.i64.wrap ((i : Int) - (g : Int)) = ((i - g : Nat) : Int) := by rw [wrap_i64 (by omega) (by omega)]; omega
      have w2 : IntKind.i64.wrap ((cnt : Int) - (g : Int)) = ((cnt - g : Nat) : Int) := by rw [wrap_i64 (by omega) (by omega)]; omega
      (conv => whnf)
      (repeat (first | (refine CallVC.auto ih (inB_mk ⟨i - g, cnt - g, p, w1, w2, by omega, by omega, by omega, rfl, rfl, hp, hd2 hhi', h32, hk, hv, ?_⟩); conv => whnf) | (refine Need.mk s1 ?_; conv => whnf) | (refine Need.mk s2 ?_; conv => whnf) | (refine CallVC.auto bsum_k (inB_mk ⟨s3, ?_⟩); conv => whnf) | (exact Out.same; conv => whnf) | (exact Out1.same; conv => whnf) | (refine QAnd.mk ?_ ?_; conv => whnf) | (apply QStepH.go; conv => whnf) | (refine Both.lit_true ?_; conv => whnf) | (refine Both.lit_false ?_; conv => whnf) | (apply QStep.go; conv => whnf) | (refine Need.mk ?_ ?_; (focus (first | omega | exact ⟨by omega, by omega⟩ | rfl | exact ⟨rfl, rfl⟩ | exact ⟨rfl, by omega, by omega⟩ | exact ⟨by omega, by omega, by omega⟩ | exact ⟨rfl, Nat.le_of_ble_eq_true rfl⟩ | exact Nat.le_of_ble_eq_true rfl | (refine ⟨rfl, rfl, ?_⟩; simp [isFar, ofV0, CV.up, SV.renL, SV.ren] <;> fail) | (refine ⟨rfl, Nat.le_of_ble_eq_true rfl, ?_⟩; simp [isFar, ofV0, CV.up, SV.renL, SV.ren] <;> fail) | (simp only [List.length_append, List.length_drop, List.length_take, List.length_replicate, List.length_map]; omega) | (simp <;> fail))); conv => whnf) | (refine ⟨_, rfl, ?_⟩; conv => whnf)))
      refine ⟨_, _, WeakV.auto ?_, h⟩
      (repeat' ((conv => whnf); first | exact True.intro | (refine And.intro ?_ ?_)))
      all_goals first | rfl | exact .eq rfl
theorem rup_k (m : Nat) : Contract Tryd.prog [] 39 (rupS m) := ⟨⟨⟨_, rfl, rfl, rfl⟩⟩, rup_c m⟩
end Go.LX
end
section
set_option maxRecDepth 100000
set_option maxHeartbeats 2000000
set_option autoImplicit false
set_option linter.unusedVariables false
set_option linter.unusedSimpArgs false
namespace Go.LX
open Go.Proofs

/-! ## Climbs: the program's and the document's are one -/
def rightP (p : List Bs) (x c : Int) : Prop := okL x c ∧ p.length = depP x.toNat c.toNat ∧ ∀ s ∈ p, s.length = 32
theorem climb_yes {lf : Bs} {x c : Int} {p : List Bs} (h : rightP p x c) : climbP lf x c p = (shaD (topX c.toNat (upD lf p x.toNat c.toNat)), true) := by
  obtain ⟨h1, h2, h3⟩ := h
  have h4 : upP lf c.toNat x.toNat p true = (upD lf p x.toNat c.toNat, [], true) := up_ok lf c.toNat c.toNat x.toNat [] p true (Nat.le_refl _) h2 h3
  unfold climbP
  rw [h4, if_pos ⟨h1, rfl, rfl⟩]
theorem climb_no {lf : Bs} {x c : Int} {p : List Bs} (h : ¬ rightP p x c) : climbP lf x c p = ([], false) := by
  unfold climbP
  rw [if_neg]
  rintro ⟨h1, h2, h3⟩
  obtain ⟨_, q, h4, h5, h6⟩ := up_back lf c.toNat c.toNat x.toNat p true (Nat.le_refl _) h2
  rw [h3] at h4
  have h4 : p = q := h4
  subst h4
  exact h ⟨h1, h5, h6⟩
/-- The texts that the document's climb asks. -/
def climbT (lf : Bs) (x c : Int) (p : List Bs) (T : List Bs) : List Bs := topX c.toNat (upD lf p x.toNat c.toNat) :: upT lf p x.toNat c.toNat T
def rclimbS : Spec := fun args H Q => match args with
  | [.ptr 0 0, .agg [.int .i64 x, .int .i64 c, .str k, .str v, .sl 1 n cs false]] => inB H fun T => ∃ p : List Bs, cs = strs p ∧ n = p.length ∧ p.length < 1000000 ∧ k.length < 50000 ∧ v.length < 50000 ∧
      (rightP p x c → Q (.tuple [.str (shaD (topX c.toNat (upD (txLeaf (k, v)) p x.toNat c.toNat))), .bool true]) (bkO (climbT (txLeaf (k, v)) x c p T))) ∧ (¬ rightP p x c → Q (.tuple [.str [], .bool false]) (bkO T))
  | _ => False
theorem getD_32 (p : List Bs) {k : Nat} (hk : k < p.length) (h : (p.getD k []).length = 32) (hall : ∀ j, j < k → (p.getD j []).length = 32) : ∀ j, j < k + 1 → (p.getD j []).length = 32 := fun j hj => by
  rcases Nat.lt_or_ge j k with h9 | h9
  · exact hall j h9
  · rw [show j = k by omega]; exact h
theorem rclimb_c : Meets Tryd.prog [] 25 rclimbS := by
  refine meets_of Γok Tryd.func25 rfl ?_
  intro args H Q h
  unfold rclimbS at h
  split at h
  case h_2 => exact h.elim
  rename_i x c k v n cs
  obtain ⟨T, rfl, p, rfl, rfl, hp, hk, hv, hyes, hno⟩ := inB_out h
  clear h
  have out1 : ¬ okL x c → Q (.tuple [.str [], .bool false]) (bkO T) := fun h9 => hno (fun h => h9 h.1)
  (refine sx_sound Γok _ ?_; conv => whnf)
  (refine DrawVC.any Γok (by kernel_rfl) (by kernel_rfl) (by kernel_rfl) (by rfl) ?_; conv => whnf)
  (repeat (first | (exact Out.same; conv => whnf) | (exact Out1.same; conv => whnf) | (refine QAnd.mk ?_ ?_; conv => whnf) | (apply QStepH.go; conv => whnf) | (refine Both.lit_true ?_; conv => whnf) | (refine Both.lit_false ?_; conv => whnf) | (apply QStep.go; conv => whnf) | (refine Need.mk ?_ ?_; (focus (first | omega | exact ⟨by omega, by omega⟩ | rfl | exact ⟨rfl, rfl⟩ | exact ⟨rfl, by omega, by omega⟩ | exact ⟨by omega, by omega, by omega⟩ | exact ⟨rfl, Nat.le_of_ble_eq_true rfl⟩ | exact Nat.le_of_ble_eq_true rfl | (refine ⟨rfl, rfl, ?_⟩; simp [isFar, ofV0, CV.up, SV.renL, SV.ren] <;> fail) | (refine ⟨rfl, Nat.le_of_ble_eq_true rfl, ?_⟩; simp [isFar, ofV0, CV.up, SV.renL, SV.ren] <;> fail) | (simp only [List.length_append, List.length_drop, List.length_take, List.length_replicate, List.length_map]; omega) | (simp <;> fail))); conv => whnf) | (refine ⟨_, rfl, ?_⟩; conv => whnf)))
  refine Both.dec (fun b1 => ?_) (fun b1 => ?_)
  · (conv => whnf)
    (repeat (first | (exact Out.same; conv => whnf) | (exact Out1.same; conv => whnf) | (refine QAnd.mk ?_ ?_; conv => whnf) | (apply QStepH.go; conv => whnf) | (refine Both.lit_true ?_; conv => whnf) | (refine Both.lit_false ?_; conv => whnf) | (apply QStep.go; conv => whnf) | (refine Need.mk ?_ ?_; (focus (first | omega | exact ⟨by omega, by omega⟩ | rfl | exact ⟨rfl, rfl⟩ | exact ⟨rfl, by omega, by omega⟩ | exact ⟨by omega, by omega, by omega⟩ | exact ⟨rfl, Nat.le_of_ble_eq_true rfl⟩ | exact Nat.le_of_ble_eq_true rfl | (refine ⟨rfl, rfl, ?_⟩; simp [isFar, ofV0, CV.up, SV.renL, SV.ren] <;> fail) | (refine ⟨rfl, Nat.le_of_ble_eq_true rfl, ?_⟩; simp [isFar, ofV0, CV.up, SV.renL, SV.ren] <;> fail) | (simp only [List.length_append, List.length_drop, List.length_take, List.length_replicate, List.length_map]; omega) | (simp <;> fail))); conv => whnf) | (refine ⟨_, rfl, ?_⟩; conv => whnf) | (refine Both.of_false ?_ ?_; (focus (first | rfl | (simp <;> fail))); conv => whnf) | (refine Both.of_true ?_ ?_; (focus (first | rfl | (simp <;> fail))); conv => whnf)))
    refine ⟨_, _, WeakV.auto ?_, out1 (fun h => by omega)⟩
    (repeat' ((conv => whnf); first | exact True.intro | (refine And.intro ?_ ?_)))
    all_goals first | rfl | exact .eq rfl
  (conv => whnf)
  (repeat (first | (exact Out.same; conv => whnf) | (exact Out1.same; conv => whnf) | (refine QAnd.mk ?_ ?_; conv => whnf) | (apply QStepH.go; conv => whnf) | (refine Both.lit_true ?_; conv => whnf) | (refine Both.lit_false ?_; conv => whnf) | (apply QStep.go; conv => whnf) | (refine Need.mk ?_ ?_; (focus (first | omega | exact ⟨by omega, by omega⟩ | rfl | exact ⟨rfl, rfl⟩ | exact ⟨rfl, by omega, by omega⟩ | exact ⟨by omega, by omega, by omega⟩ | exact ⟨rfl, Nat.le_of_ble_eq_true rfl⟩ | exact Nat.le_of_ble_eq_true rfl | (refine ⟨rfl, rfl, ?_⟩; simp [isFar, ofV0, CV.up, SV.renL, SV.ren] <;> fail) | (refine ⟨rfl, Nat.le_of_ble_eq_true rfl, ?_⟩; simp [isFar, ofV0, CV.up, SV.renL, SV.ren] <;> fail) | (simp only [List.length_append, List.length_drop, List.length_take, List.length_replicate, List.length_map]; omega) | (simp <;> fail))); conv => whnf) | (refine ⟨_, rfl, ?_⟩; conv => whnf)))
  refine Both.dec (fun b2 => ?_) (fun b2 => ?_)
  · (conv => whnf)
    (repeat (first | (exact Out.same; conv => whnf) | (exact Out1.same; conv => whnf) | (refine QAnd.mk ?_ ?_; conv => whnf) | (apply QStepH.go; conv => whnf) | (refine Both.lit_true ?_; conv => whnf) | (refine Both.lit_false ?_; conv => whnf) | (apply QStep.go; conv => whnf) | (refine Need.mk ?_ ?_; (focus (first | omega | exact ⟨by omega, by omega⟩ | rfl | exact ⟨rfl, rfl⟩ | exact ⟨rfl, by omega, by omega⟩ | exact ⟨by omega, by omega, by omega⟩ | exact ⟨rfl, Nat.le_of_ble_eq_true rfl⟩ | exact Nat.le_of_ble_eq_true rfl | (refine ⟨rfl, rfl, ?_⟩; simp [isFar, ofV0, CV.up, SV.renL, SV.ren] <;> fail) | (refine ⟨rfl, Nat.le_of_ble_eq_true rfl, ?_⟩; simp [isFar, ofV0, CV.up, SV.renL, SV.ren] <;> fail) | (simp only [List.length_append, List.length_drop, List.length_take, List.length_replicate, List.length_map]; omega) | (simp <;> fail))); conv => whnf) | (refine ⟨_, rfl, ?_⟩; conv => whnf) | (refine Both.of_false ?_ ?_; (focus (first | rfl | (simp <;> fail))); conv => whnf) | (refine Both.of_true ?_ ?_; (focus (first | rfl | (simp <;> fail))); conv => whnf)))
    refine ⟨_, _, WeakV.auto ?_, out1 (fun h => by omega)⟩
    (repeat' ((conv => whnf); first | exact True.intro | (refine And.intro ?_ ?_)))
    all_goals first | rfl | exact .eq rfl
  (conv => whnf)
  (repeat (first | (exact Out.same; conv => whnf) | (exact Out1.same; conv => whnf) | (refine QAnd.mk ?_ ?_; conv => whnf) | (apply QStepH.go; conv => whnf) | (refine Both.lit_true ?_; conv => whnf) | (refine Both.lit_false ?_; conv => whnf) | (apply QStep.go; conv => whnf) | (refine Need.mk ?_ ?_; (focus (first | omega | exact ⟨by omega, by omega⟩ | rfl | exact ⟨rfl, rfl⟩ | exact ⟨rfl, by omega, by omega⟩ | exact ⟨by omega, by omega, by omega⟩ | exact ⟨rfl, Nat.le_of_ble_eq_true rfl⟩ | exact Nat.le_of_ble_eq_true rfl | (refine ⟨rfl, rfl, ?_⟩; simp [isFar, ofV0, CV.up, SV.renL, SV.ren] <;> fail) | (refine ⟨rfl, Nat.le_of_ble_eq_true rfl, ?_⟩; simp [isFar, ofV0, CV.up, SV.renL, SV.ren] <;> fail) | (simp only [List.length_append, List.length_drop, List.length_take, List.length_replicate, List.length_map]; omega) | (simp <;> fail))); conv => whnf) | (refine ⟨_, rfl, ?_⟩; conv => whnf)))
  refine Both.dec (fun b3 => ?_) (fun b3 => ?_)
  · (conv => whnf)
    (repeat (first | (exact Out.same; conv => whnf) | (exact Out1.same; conv => whnf) | (refine QAnd.mk ?_ ?_; conv => whnf) | (apply QStepH.go; conv => whnf) | (refine Both.lit_true ?_; conv => whnf) | (refine Both.lit_false ?_; conv => whnf) | (apply QStep.go; conv => whnf) | (refine Need.mk ?_ ?_; (focus (first | omega | exact ⟨by omega, by omega⟩ | rfl | exact ⟨rfl, rfl⟩ | exact ⟨rfl, by omega, by omega⟩ | exact ⟨by omega, by omega, by omega⟩ | exact ⟨rfl, Nat.le_of_ble_eq_true rfl⟩ | exact Nat.le_of_ble_eq_true rfl | (refine ⟨rfl, rfl, ?_⟩; simp [isFar, ofV0, CV.up, SV.renL, SV.ren] <;> fail) | (refine ⟨rfl, Nat.le_of_ble_eq_true rfl, ?_⟩; simp [isFar, ofV0, CV.up, SV.renL, SV.ren] <;> fail) | (simp only [List.length_append, List.length_drop, List.length_take, List.length_replicate, List.length_map]; omega) | (simp <;> fail))); conv => whnf) | (refine ⟨_, rfl, ?_⟩; conv => whnf) | (refine Both.of_false ?_ ?_; (focus (first | rfl | (simp <;> fail))); conv => whnf) | (refine Both.of_true ?_ ?_; (focus (first | rfl | (simp <;> fail))); conv => whnf)))
    refine ⟨_, _, WeakV.auto ?_, out1 (fun h => by omega)⟩
    (repeat' ((conv => whnf); first | exact True.intro | (refine And.intro ?_ ?_)))
    all_goals first | rfl | exact .eq rfl
  (conv => whnf)
  (repeat (first | (exact Out.same; conv => whnf) | (exact Out1.same; conv => whnf) | (refine QAnd.mk ?_ ?_; conv => whnf) | (apply QStepH.go; conv => whnf) | (refine Both.lit_true ?_; conv => whnf) | (refine Both.lit_false ?_; conv => whnf) | (apply QStep.go; conv => whnf) | (refine Need.mk ?_ ?_; (focus (first | omega | exact ⟨by omega, by omega⟩ | rfl | exact ⟨rfl, rfl⟩ | exact ⟨rfl, by omega, by omega⟩ | exact ⟨by omega, by omega, by omega⟩ | exact ⟨rfl, Nat.le_of_ble_eq_true rfl⟩ | exact Nat.le_of_ble_eq_true rfl | (refine ⟨rfl, rfl, ?_⟩; simp [isFar, ofV0, CV.up, SV.renL, SV.ren] <;> fail) | (refine ⟨rfl, Nat.le_of_ble_eq_true rfl, ?_⟩; simp [isFar, ofV0, CV.up, SV.renL, SV.ren] <;> fail) | (simp only [List.length_append, List.length_drop, List.length_take, List.length_replicate, List.length_map]; omega) | (simp <;> fail))); conv => whnf) | (refine ⟨_, rfl, ?_⟩; conv => whnf)))
  refine Both.dec (fun b4 => ?_) (fun b4 => ?_)
  · (conv => whnf)
    (repeat (first | (exact Out.same; conv => whnf) | (exact Out1.same; conv => whnf) | (refine QAnd.mk ?_ ?_; conv => whnf) | (apply QStepH.go; conv => whnf) | (refine Both.lit_true ?_; conv => whnf) | (refine Both.lit_false ?_; conv => whnf) | (apply QStep.go; conv => whnf) | (refine Need.mk ?_ ?_; (focus (first | omega | exact ⟨by omega, by omega⟩ | rfl | exact ⟨rfl, rfl⟩ | exact ⟨rfl, by omega, by omega⟩ | exact ⟨by omega, by omega, by omega⟩ | exact ⟨rfl, Nat.le_of_ble_eq_true rfl⟩ | exact Nat.le_of_ble_eq_true rfl | (refine ⟨rfl, rfl, ?_⟩; simp [isFar, ofV0, CV.up, SV.renL, SV.ren] <;> fail) | (refine ⟨rfl, Nat.le_of_ble_eq_true rfl, ?_⟩; simp [isFar, ofV0, CV.up, SV.renL, SV.ren] <;> fail) | (simp only [List.length_append, List.length_drop, List.length_take, List.length_replicate, List.length_map]; omega) | (simp <;> fail))); conv => whnf) | (refine ⟨_, rfl, ?_⟩; conv => whnf) | (refine Both.of_false ?_ ?_; (focus (first | rfl | (simp <;> fail))); conv => whnf) | (refine Both.of_true ?_ ?_; (focus (first | rfl | (simp <;> fail))); conv => whnf)))
    refine ⟨_, _, WeakV.auto ?_, out1 (fun h => by omega)⟩
    (repeat' ((conv => whnf); first | exact True.intro | (refine And.intro ?_ ?_)))
    all_goals first | rfl | exact .eq rfl
  have hL : okL x c := by omega
  have hx : x = ((x.toNat : Nat) : Int) := by omega
  have hc : c = ((c.toNat : Nat) : Int) := by omega
  have hxc : x.toNat < c.toNat := by omega
  have hc60 : c.toNat < 60000 := by omega
  (conv => whnf)
  (repeat (first | (refine CallVC.auto (rdep_k c.toNat) ⟨x.toNat, c.toNat, hx, hc, hxc, Nat.le_refl _, hc60, ?_⟩; conv => whnf) | (exact Out.same; conv => whnf) | (exact Out1.same; conv => whnf) | (refine QAnd.mk ?_ ?_; conv => whnf) | (apply QStepH.go; conv => whnf) | (refine Both.lit_true ?_; conv => whnf) | (refine Both.lit_false ?_; conv => whnf) | (apply QStep.go; conv => whnf) | (refine Need.mk ?_ ?_; (focus (first | omega | exact ⟨by omega, by omega⟩ | rfl | exact ⟨rfl, rfl⟩ | exact ⟨rfl, by omega, by omega⟩ | exact ⟨by omega, by omega, by omega⟩ | exact ⟨rfl, Nat.le_of_ble_eq_true rfl⟩ | exact Nat.le_of_ble_eq_true rfl | (refine ⟨rfl, rfl, ?_⟩; simp [isFar, ofV0, CV.up, SV.renL, SV.ren] <;> fail) | (refine ⟨rfl, Nat.le_of_ble_eq_true rfl, ?_⟩; simp [isFar, ofV0, CV.up, SV.renL, SV.ren] <;> fail) | (simp only [List.length_append, List.length_drop, List.length_take, List.length_replicate, List.length_map]; omega) | (simp <;> fail))); conv => whnf) | (refine ⟨_, rfl, ?_⟩; conv => whnf)))
  refine Both.dec_not (fun hne => ?_) (fun heq => ?_)
  · (conv => whnf)
    (repeat (first | (exact Out.same; conv => whnf) | (exact Out1.same; conv => whnf) | (refine QAnd.mk ?_ ?_; conv => whnf) | (apply QStepH.go; conv => whnf) | (refine Both.lit_true ?_; conv => whnf) | (refine Both.lit_false ?_; conv => whnf) | (apply QStep.go; conv => whnf) | (refine Need.mk ?_ ?_; (focus (first | omega | exact ⟨by omega, by omega⟩ | rfl | exact ⟨rfl, rfl⟩ | exact ⟨rfl, by omega, by omega⟩ | exact ⟨by omega, by omega, by omega⟩ | exact ⟨rfl, Nat.le_of_ble_eq_true rfl⟩ | exact Nat.le_of_ble_eq_true rfl | (refine ⟨rfl, rfl, ?_⟩; simp [isFar, ofV0, CV.up, SV.renL, SV.ren] <;> fail) | (refine ⟨rfl, Nat.le_of_ble_eq_true rfl, ?_⟩; simp [isFar, ofV0, CV.up, SV.renL, SV.ren] <;> fail) | (simp only [List.length_append, List.length_drop, List.length_take, List.length_replicate, List.length_map]; omega) | (simp <;> fail))); conv => whnf) | (refine ⟨_, rfl, ?_⟩; conv => whnf) | (refine Both.of_false ?_ ?_; (focus (first | rfl | (simp <;> fail))); conv => whnf) | (refine Both.of_true ?_ ?_; (focus (first | rfl | (simp <;> fail))); conv => whnf)))
    refine ⟨_, _, WeakV.auto ?_, hno (fun h => hne (by rw [h.2.1]))⟩
    (repeat' ((conv => whnf); first | exact True.intro | (refine And.intro ?_ ?_)))
    all_goals first | rfl | exact .eq rfl
  have hdp : p.length = depP x.toNat c.toNat := by omega
  (conv => whnf)
  (repeat (first | (exact Out.same; conv => whnf) | (exact Out1.same; conv => whnf) | (refine QAnd.mk ?_ ?_; conv => whnf) | (apply QStepH.go; conv => whnf) | (refine Both.lit_true ?_; conv => whnf) | (refine Both.lit_false ?_; conv => whnf) | (apply QStep.go; conv => whnf) | (refine Need.mk ?_ ?_; (focus (first | omega | exact ⟨by omega, by omega⟩ | rfl | exact ⟨rfl, rfl⟩ | exact ⟨rfl, by omega, by omega⟩ | exact ⟨by omega, by omega, by omega⟩ | exact ⟨rfl, Nat.le_of_ble_eq_true rfl⟩ | exact Nat.le_of_ble_eq_true rfl | (refine ⟨rfl, rfl, ?_⟩; simp [isFar, ofV0, CV.up, SV.renL, SV.ren] <;> fail) | (refine ⟨rfl, Nat.le_of_ble_eq_true rfl, ?_⟩; simp [isFar, ofV0, CV.up, SV.renL, SV.ren] <;> fail) | (simp only [List.length_append, List.length_drop, List.length_take, List.length_replicate, List.length_map]; omega) | (simp <;> fail))); conv => whnf) | (refine ⟨_, rfl, ?_⟩; conv => whnf) | (refine Both.of_false ?_ ?_; (focus (first | rfl | (simp <;> fail))); conv => whnf) | (refine Both.of_true ?_ ?_; (focus (first | rfl | (simp <;> fail))); conv => whnf)))
  refine loop_rule (fun j : Nat => ⟨[.ptr 0 0, .any, .any, .ptr 2 0, .any, .any, .int .i64 (j : Int), .any, .any, .any, .any, .any, .any, .any, .any, .any, .any, .any, .any, .any, .any, .any, .any, .any, .any, .any, .any, .any, .any, .any, .any, .any, .any, .any, .any, .any, .any, .any, .any, .any, .any, .any, .any, .any, .any, .any, .any, .any, .any, .any, .any, .any, .any, .any, .any, .any, .any, .any, .any, .any, .any, .any, .any], bkO T ++ [.cells [.int .i64 x, .int .i64 c, .str k, .str v, .sl 1 p.length (strs p) false] 50]⟩) (fun j => j ≤ p.length ∧ ∀ q, q < j → (p.getD q []).length = 32) (fun j => p.length - j) 0 ⟨Nat.zero_le _, fun q hq => by omega⟩ (Weak.auto ?_) ?_
  · (repeat' ((conv => whnf); first | exact True.intro | (refine And.intro ?_ ?_)))
    all_goals first | rfl | exact .eq rfl
  rintro j ⟨hj, hall⟩
  (refine sx_sound Γok _ ?_; conv => whnf)
  (repeat (first | (exact Out.same; conv => whnf) | (exact Out1.same; conv => whnf) | (refine QAnd.mk ?_ ?_; conv => whnf) | (apply QStepH.go; conv => whnf) | (refine Both.lit_true ?_; conv => whnf) | (refine Both.lit_false ?_; conv => whnf) | (apply QStep.go; conv => whnf) | (refine Need.mk ?_ ?_; (focus (first | omega | exact ⟨by omega, by omega⟩ | rfl | exact ⟨rfl, rfl⟩ | exact ⟨rfl, by omega, by omega⟩ | exact ⟨by omega, by omega, by omega⟩ | exact ⟨rfl, Nat.le_of_ble_eq_true rfl⟩ | exact Nat.le_of_ble_eq_true rfl | (refine ⟨rfl, rfl, ?_⟩; simp [isFar, ofV0, CV.up, SV.renL, SV.ren] <;> fail) | (refine ⟨rfl, Nat.le_of_ble_eq_true rfl, ?_⟩; simp [isFar, ofV0, CV.up, SV.renL, SV.ren] <;> fail) | (simp only [List.length_append, List.length_drop, List.length_take, List.length_replicate, List.length_map]; omega) | (simp <;> fail))); conv => whnf) | (refine ⟨_, rfl, ?_⟩; conv => whnf)))
  refine Both.dec (fun hlt => ?_) (fun hge => ?_)
  · have hjl : j < p.length := by omega
    have hat := strs_at p hjl
    have hwr : IntKind.i64.wrap ((j : Int) + 1) = ((j + 1 : Nat) : Int) := by rw [wrap_i64 (by omega) (by omega)]; rfl
    (conv => whnf)
    (repeat (first | (refine ⟨_, hat, ?_⟩; conv => whnf) | (exact Out.same; conv => whnf) | (exact Out1.same; conv => whnf) | (refine QAnd.mk ?_ ?_; conv => whnf) | (apply QStepH.go; conv => whnf) | (refine Both.lit_true ?_; conv => whnf) | (refine Both.lit_false ?_; conv => whnf) | (apply QStep.go; conv => whnf) | (refine Need.mk ?_ ?_; (focus (first | omega | exact ⟨by omega, by omega⟩ | rfl | exact ⟨rfl, rfl⟩ | exact ⟨rfl, by omega, by omega⟩ | exact ⟨by omega, by omega, by omega⟩ | exact ⟨rfl, Nat.le_of_ble_eq_true rfl⟩ | exact Nat.le_of_ble_eq_true rfl | (refine ⟨rfl, rfl, ?_⟩; simp [isFar, ofV0, CV.up, SV.renL, SV.ren] <;> fail) | (refine ⟨rfl, Nat.le_of_ble_eq_true rfl, ?_⟩; simp [isFar, ofV0, CV.up, SV.renL, SV.ren] <;> fail) | (simp only [List.length_append, List.length_drop, List.length_take, List.length_replicate, List.length_map]; omega) | (simp <;> fail))); conv => whnf) | (refine ⟨_, rfl, ?_⟩; conv => whnf)))
    refine Both.dec_not (fun hne => ?_) (fun heq => ?_)
    · have hb : ¬ rightP p x c := fun h => hne (by
        have := h.2.2 (p.getD j []) (by rw [List.getD_eq_getElem?_getD, List.getElem?_eq_getElem hjl]; exact List.getElem_mem _)
        rw [this]
        rfl)
      (conv => whnf)
      (repeat (first | (exact Out.same; conv => whnf) | (exact Out1.same; conv => whnf) | (refine QAnd.mk ?_ ?_; conv => whnf) | (apply QStepH.go; conv => whnf) | (refine Both.lit_true ?_; conv => whnf) | (refine Both.lit_false ?_; conv => whnf) | (apply QStep.go; conv => whnf) | (refine Need.mk ?_ ?_; (focus (first | omega | exact ⟨by omega, by omega⟩ | rfl | exact ⟨rfl, rfl⟩ | exact ⟨rfl, by omega, by omega⟩ | exact ⟨by omega, by omega, by omega⟩ | exact ⟨rfl, Nat.le_of_ble_eq_true rfl⟩ | exact Nat.le_of_ble_eq_true rfl | (refine ⟨rfl, rfl, ?_⟩; simp [isFar, ofV0, CV.up, SV.renL, SV.ren] <;> fail) | (refine ⟨rfl, Nat.le_of_ble_eq_true rfl, ?_⟩; simp [isFar, ofV0, CV.up, SV.renL, SV.ren] <;> fail) | (simp only [List.length_append, List.length_drop, List.length_take, List.length_replicate, List.length_map]; omega) | (simp <;> fail))); conv => whnf) | (refine ⟨_, rfl, ?_⟩; conv => whnf) | (refine Both.of_false ?_ ?_; (focus (first | rfl | (simp <;> fail))); conv => whnf) | (refine Both.of_true ?_ ?_; (focus (first | rfl | (simp <;> fail))); conv => whnf)))
      refine ⟨_, _, WeakV.auto ?_, hno hb⟩
      (repeat' ((conv => whnf); first | exact True.intro | (refine And.intro ?_ ?_)))
      all_goals first | rfl | exact .eq rfl
    · (conv => whnf)
      (repeat (first | (exact Out.same; conv => whnf) | (exact Out1.same; conv => whnf) | (refine QAnd.mk ?_ ?_; conv => whnf) | (apply QStepH.go; conv => whnf) | (refine Both.lit_true ?_; conv => whnf) | (refine Both.lit_false ?_; conv => whnf) | (apply QStep.go; conv => whnf) | (refine Need.mk ?_ ?_; (focus (first | omega | exact ⟨by omega, by omega⟩ | rfl | exact ⟨rfl, rfl⟩ | exact ⟨rfl, by omega, by omega⟩ | exact ⟨by omega, by omega, by omega⟩ | exact ⟨rfl, Nat.le_of_ble_eq_true rfl⟩ | exact Nat.le_of_ble_eq_true rfl | (refine ⟨rfl, rfl, ?_⟩; simp [isFar, ofV0, CV.up, SV.renL, SV.ren] <;> fail) | (refine ⟨rfl, Nat.le_of_ble_eq_true rfl, ?_⟩; simp [isFar, ofV0, CV.up, SV.renL, SV.ren] <;> fail) | (simp only [List.length_append, List.length_drop, List.length_take, List.length_replicate, List.length_map]; omega) | (simp <;> fail))); conv => whnf) | (refine ⟨_, rfl, ?_⟩; conv => whnf) | (refine Both.of_false ?_ ?_; (focus (first | rfl | (simp <;> fail))); conv => whnf) | (refine Both.of_true ?_ ?_; (focus (first | rfl | (simp <;> fail))); conv => whnf)))
      refine ⟨j + 1, ⟨hjl, getD_32 p hjl (by omega) hall⟩, by omega, Weak.auto ?_⟩
      (repeat' ((conv => whnf); first | exact True.intro | (refine And.intro ?_ ?_)))
      all_goals first | rfl | exact .eq rfl | exact congrArg (SV.int .i64) hwr
  have hje : j = p.length := by omega
  have h32 : ∀ s ∈ p, s.length = 32 := fun s hs => by
    obtain ⟨q, hq, rfl⟩ := List.getElem_of_mem hs
    have := hall q (by omega)
    rw [List.getD_eq_getElem?_getD, List.getElem?_eq_getElem hq] at this
    exact this
  have h := hyes ⟨hL, hdp, h32⟩
  unfold climbT at h
  have hdu := upD_len (txLeaf (k, v)) p x.toNat c.toNat
  have n1 : -9223372036854775808 ≤ c := by omega
  have n2 : c ≤ 9223372036854775807 := by omega
  have n3 : (upD (txLeaf (k, v)) p x.toNat c.toNat).length < 50000 := by omega
  (conv => whnf)
  (refine DrawVC.any Γok (by kernel_rfl) (by kernel_rfl) (by kernel_rfl) (by rfl) ?_; conv => whnf)
  (repeat (first | (refine CallVC.auto (rup_k c.toNat) (inB_mk ⟨x.toNat, c.toNat, p, hx, hc, hxc, Nat.le_refl _, hc60, rfl, rfl, hp, by omega, h32, hk, hv, ?_⟩); conv => whnf) | (refine CallVC.auto rtop_k (inB_mk ⟨n1, n2, n3, ?_⟩); conv => whnf) | (exact Out.same; conv => whnf) | (exact Out1.same; conv => whnf) | (refine QAnd.mk ?_ ?_; conv => whnf) | (apply QStepH.go; conv => whnf) | (refine Both.lit_true ?_; conv => whnf) | (refine Both.lit_false ?_; conv => whnf) | (apply QStep.go; conv => whnf) | (refine Need.mk ?_ ?_; (focus (first | omega | exact ⟨by omega, by omega⟩ | rfl | exact ⟨rfl, rfl⟩ | exact ⟨rfl, by omega, by omega⟩ | exact ⟨by omega, by omega, by omega⟩ | exact ⟨rfl, Nat.le_of_ble_eq_true rfl⟩ | exact Nat.le_of_ble_eq_true rfl | (refine ⟨rfl, rfl, ?_⟩; simp [isFar, ofV0, CV.up, SV.renL, SV.ren] <;> fail) | (refine ⟨rfl, Nat.le_of_ble_eq_true rfl, ?_⟩; simp [isFar, ofV0, CV.up, SV.renL, SV.ren] <;> fail) | (simp only [List.length_append, List.length_drop, List.length_take, List.length_replicate, List.length_map]; omega) | (simp <;> fail))); conv => whnf) | (refine ⟨_, rfl, ?_⟩; conv => whnf)))
  refine ⟨_, _, WeakV.auto ?_, h⟩
  (repeat' ((conv => whnf); first | exact True.intro | (refine And.intro ?_ ?_)))
  all_goals first | rfl | exact .eq rfl
theorem rclimb_k : Contract Tryd.prog [] 25 rclimbS := ⟨⟨⟨_, rfl, rfl, rfl⟩⟩, rclimb_c⟩
end Go.LX
end
