import Derived.Test.YtiokggkoidiicaaFb
import Derived.Test.YtiokggkoidiicaaLm
set_option maxRecDepth 100000
set_option maxHeartbeats 1000000
set_option autoImplicit false
set_option linter.unusedVariables false
set_option linter.unusedSimpArgs false
namespace Go.LX
open Go.Proofs

/-! ## The document's sectors -/
def sec2S : Spec := fun args H Q => match args, H with
  | [.int .i64 z, .int .u64 g, .int .u64 sr, .int .i64 k, .int .i64 n, .str b], [] => ∃ zn gn sn kn nn : Nat, ∃ bb : Bz, z = zn ∧ g = gn ∧ sr = sn ∧ k = kn ∧ n = nn ∧ b = bb ∧ zn ≤ 512 ∧ gn < 18446744073709551616 ∧ sn < 18446744073709551616 ∧ kn < 256 ∧ nn < 256 ∧ bb.length + 25 ≤ zn ∧
    Q (.str (secX zn gn sn kn nn bb)) []
  | _, _ => False
theorem sec2_k : Contract Try.prog [] 18 sec2S := sec_k.imp fun args H Q h => by
  unfold sec2S at h
  split at h
  case h_2 => exact h.elim
  obtain ⟨zn, gn, sn, kn, nn, bb, h1, h2, h3, h4, h5, rfl, h6⟩ := h
  exact ⟨zn, gn, sn, kn, nn, h1, h2, h3, h4, h5, h6⟩
abbrev strL (l : List Bz) : List CV := l.map CV.str
/-- What a split tells. -/
def splitQ (z : Int) (gn sn : Nat) (s : Bz) (Q : SV → List LObj → Prop) : Prop :=
  (partsV z s.length = 0 → Q (.tuple [.nilsl, .int .i64 1]) []) ∧
  (partsV z s.length ≠ 0 → Q (.tuple [.own 0, .int .i64 0]) [.own 9 1 (splitL z.toNat gn sn s).length (strL (splitL z.toNat gn sn s)) true])
def splitS : Spec := fun args H Q => match args, H with
  | [.int .i64 z, .int .u64 g, .int .u64 sr, .str s], [] => ∃ gn sn : Nat, g = gn ∧ sr = sn ∧ gn < 18446744073709551616 ∧ sn < 18446744073709551616 ∧ s.length ≤ 9223372036854775807 ∧ splitQ z gn sn s Q
  | _, _ => False
theorem parts_facts {z : Int} {s : Bz} (h : partsV z s.length ≠ 0) : 64 ≤ z ∧ z ≤ 512 ∧ s.length ≤ 4096 ∧ partsV z s.length = npar (z.toNat - 25) s.length ∧ npar (z.toNat - 25) s.length ≤ 106 := by
  unfold partsV at h ⊢
  by_cases hc : (64 ≤ z ∧ z ≤ 512) ∧ 0 ≤ (s.length : Int) ∧ (s.length : Int) ≤ 4096
  · rw [if_pos hc]
    refine ⟨hc.1.1, hc.1.2, by omega, by rw [Int.toNat_natCast], npar_le (by omega) ?_ (by omega)⟩
    have h1 : 106 * 39 ≤ 106 * (z.toNat - 25) := Nat.mul_le_mul_left _ (by omega)
    omega
  · exact absurd (if_neg hc) h
theorem rsplit_c : Meets Try.prog [] 6 splitS := by
  refine meets_of Γok Try.func6 rfl ?_
  intro args H Q h
  unfold splitS at h
  split at h
  case h_2 => exact h.elim
  rename_i z g sr s
  obtain ⟨gn, sn, rfl, rfl, hg, hs, hl, h⟩ := h
  by_cases h0 : partsV z s.length = 0
  · have e : decide (((partsV z s.length : Nat) : Int) = 0) = true := by rw [h0]; rfl
    have h := h.1 h0
    (refine sx_sound Γok _ ?_; conv => whnf)
    (repeat (first | (refine Both.of_true e ?_; conv => whnf) | (exact Out.same; conv => whnf) | (exact Out1.same; conv => whnf) | (refine QAnd.mk ?_ ?_; conv => whnf) | (apply QStepH.go; conv => whnf) | (refine Both.lit_true ?_; conv => whnf) | (refine Both.lit_false ?_; conv => whnf) | (apply QStep.go; conv => whnf) | (refine Need.mk ?_ ?_; (focus (first | omega | exact ⟨by omega, by omega⟩ | rfl | exact ⟨rfl, rfl⟩ | exact ⟨rfl, by omega, by omega⟩ | exact ⟨by omega, by omega, by omega⟩ | exact ⟨rfl, Nat.le_of_ble_eq_true rfl⟩ | exact Nat.le_of_ble_eq_true rfl | (refine ⟨rfl, rfl, ?_⟩; simp [isFar, ofV0, CV.up, SV.renL, SV.ren] <;> fail) | (refine ⟨rfl, Nat.le_of_ble_eq_true rfl, ?_⟩; simp [isFar, ofV0, CV.up, SV.renL, SV.ren] <;> fail) | (simp only [List.length_append, List.length_drop, List.length_take, List.length_replicate, List.length_map]; omega) | (simp <;> fail))); conv => whnf) | (refine ⟨_, rfl, ?_⟩; conv => whnf) | (refine CallVC.auto parts2_k ?_; conv => whnf)))
    exact ⟨_, _, WeakV.drop rfl, h⟩
  have h := h.2 h0
  obtain ⟨z1, z2, sl, hp, hpb⟩ := parts_facts h0
  have e : decide (((partsV z s.length : Nat) : Int) = 0) = false := decide_eq_false (by omega)
  obtain ⟨zn, rfl⟩ := Int.eq_ofNat_of_zero_le (show 0 ≤ z by omega)
  obtain ⟨r, hr⟩ : ∃ r, zn - 25 = r := ⟨_, rfl⟩
  have htn : (zn : Int).toNat = zn := Int.toNat_natCast zn
  rw [htn] at hp hpb
  rw [hr] at hp hpb
  obtain ⟨np, hnp⟩ : ∃ np, npar r s.length = np := ⟨_, rfl⟩
  rw [hnp] at hp hpb
  have hrp : 0 < r := by omega
  have hz25 : IntKind.i64.wrap ((zn : Int) - 25) = (r : Int) := by rw [wrap_i64 (by omega) (by omega)]; omega
  (refine sx_sound Γok _ ?_; conv => whnf)
  (repeat (first | (refine Both.of_false e ?_; conv => whnf) | (exact Out.same; conv => whnf) | (exact Out1.same; conv => whnf) | (refine QAnd.mk ?_ ?_; conv => whnf) | (apply QStepH.go; conv => whnf) | (refine Both.lit_true ?_; conv => whnf) | (refine Both.lit_false ?_; conv => whnf) | (apply QStep.go; conv => whnf) | (refine Need.mk ?_ ?_; (focus (first | omega | exact ⟨by omega, by omega⟩ | rfl | exact ⟨rfl, rfl⟩ | exact ⟨rfl, by omega, by omega⟩ | exact ⟨by omega, by omega, by omega⟩ | exact ⟨rfl, Nat.le_of_ble_eq_true rfl⟩ | exact Nat.le_of_ble_eq_true rfl | (refine ⟨rfl, rfl, ?_⟩; simp [isFar, ofV0, CV.up, SV.renL, SV.ren] <;> fail) | (refine ⟨rfl, Nat.le_of_ble_eq_true rfl, ?_⟩; simp [isFar, ofV0, CV.up, SV.renL, SV.ren] <;> fail) | (simp only [List.length_append, List.length_drop, List.length_take, List.length_replicate, List.length_map]; omega) | (simp <;> fail))); conv => whnf) | (refine ⟨_, rfl, ?_⟩; conv => whnf) | (refine CallVC.auto parts2_k ?_; conv => whnf)))
  refine loop_rule (fun k : Nat => ⟨[.int .i64 (zn : Int), .int .u64 (gn : Int), .int .u64 (sn : Int), .str s, .any, .any, .any, .any, .any, .any, .int .i64 ((partsV (zn : Int) s.length : Nat) : Int), .own 0, .int .i64 (k : Int), .any, .any, .any, .any, .any, .any, .any, .any, .any, .any, .any, .any, .any, .any, .any, .any, .any, .any, .any, .any, .any, .any, .any, .any, .any, .any, .any, .any, .any, .any, .any, .any, .any, .any, .any, .any, .any, .any, .any, .any, .any, .any], [.own 9 1 k (strL (splitT zn gn sn s k)) true]⟩) (fun k => k ≤ np) (fun k => np - k) 0 (Nat.zero_le _) ((Weak.ownNilT 11 9 1 rfl).trans (Weak.auto ?_)) ?_
  · (repeat' ((conv => whnf); first | exact True.intro | (refine And.intro ?_ ?_)))
    all_goals first | rfl | exact .eq rfl
  intro k hk
  (refine sx_sound Γok _ ?_; conv => whnf)
  (repeat (first | (exact Out.same; conv => whnf) | (exact Out1.same; conv => whnf) | (refine QAnd.mk ?_ ?_; conv => whnf) | (apply QStepH.go; conv => whnf) | (refine Both.lit_true ?_; conv => whnf) | (refine Both.lit_false ?_; conv => whnf) | (apply QStep.go; conv => whnf) | (refine Need.mk ?_ ?_; (focus (first | omega | exact ⟨by omega, by omega⟩ | rfl | exact ⟨rfl, rfl⟩ | exact ⟨rfl, by omega, by omega⟩ | exact ⟨by omega, by omega, by omega⟩ | exact ⟨rfl, Nat.le_of_ble_eq_true rfl⟩ | exact Nat.le_of_ble_eq_true rfl | (refine ⟨rfl, rfl, ?_⟩; simp [isFar, ofV0, CV.up, SV.renL, SV.ren] <;> fail) | (refine ⟨rfl, Nat.le_of_ble_eq_true rfl, ?_⟩; simp [isFar, ofV0, CV.up, SV.renL, SV.ren] <;> fail) | (simp only [List.length_append, List.length_drop, List.length_take, List.length_replicate, List.length_map]; omega) | (simp <;> fail))); conv => whnf) | (refine ⟨_, rfl, ?_⟩; conv => whnf)))
  refine Both.dec (fun hlt => ?_) (fun hge => ?_)
  · have hkn : k < np := by omega
    have hkr : k * r ≤ 105 * r := Nat.mul_le_mul_right _ (by omega)
    have hf : IntKind.i64.wrap ((k : Int) * IntKind.i64.wrap ((zn : Int) - 25)) = ((k * r : Nat) : Int) := by
      rw [hz25, ← Int.natCast_mul, wrap_i64 (by omega) (by omega)]
    have hk1 : IntKind.i64.wrap ((k : Int) + 1) = ((k + 1 : Nat) : Int) := by rw [wrap_i64 (by omega) (by omega)]; rfl
    have ht : IntKind.i64.wrap (IntKind.i64.wrap ((k : Int) + 1) * IntKind.i64.wrap ((zn : Int) - 25)) = ((k * r + r : Nat) : Int) := by
      rw [hz25, hk1, ← Int.natCast_mul, wrap_i64 (by rw [Nat.add_mul]; omega) (by rw [Nat.add_mul]; omega), Nat.add_mul, Nat.one_mul]
    have hlast := npar_last hrp (show k < npar r s.length by omega)
    have hlow : k * r ≤ s.length := by
      rcases k with _ | j
      · omega
      · exact Nat.le_of_lt (npar_lo hrp (show j + 1 < npar r s.length by omega))
    have hchl := chunk_len r s k
    have hone := splitT_one zn gn sn s k
    rw [hr, hnp] at hone
    have htl := splitT_len zn gn sn s k
    have hcap : (k + 1) * ti9.bytes ≤ 140737488355328 := by
      show (k + 1) * 16 ≤ _
      omega
    have end1 : strL (splitT zn gn sn s k) ++ [CV.str (secX zn gn sn k np (chunk r s k))] = strL (splitT zn gn sn s (k + 1)) := by rw [hone]; simp [strL]
    (conv => whnf)
    (repeat (first | (exact Out.same; conv => whnf) | (exact Out1.same; conv => whnf) | (refine QAnd.mk ?_ ?_; conv => whnf) | (apply QStepH.go; conv => whnf) | (refine Both.lit_true ?_; conv => whnf) | (refine Both.lit_false ?_; conv => whnf) | (apply QStep.go; conv => whnf) | (refine Need.mk ?_ ?_; (focus (first | omega | exact ⟨by omega, by omega⟩ | rfl | exact ⟨rfl, rfl⟩ | exact ⟨rfl, by omega, by omega⟩ | exact ⟨by omega, by omega, by omega⟩ | exact ⟨rfl, Nat.le_of_ble_eq_true rfl⟩ | exact Nat.le_of_ble_eq_true rfl | (refine ⟨rfl, rfl, ?_⟩; simp [isFar, ofV0, CV.up, SV.renL, SV.ren] <;> fail) | (refine ⟨rfl, Nat.le_of_ble_eq_true rfl, ?_⟩; simp [isFar, ofV0, CV.up, SV.renL, SV.ren] <;> fail) | (simp only [List.length_append, List.length_drop, List.length_take, List.length_replicate, List.length_map]; omega) | (simp <;> fail))); conv => whnf) | (refine ⟨_, rfl, ?_⟩; conv => whnf)))
    rw [hf, ht]
    refine Both.dec (fun h5 => ?_) (fun h5 => ?_)
    · have hch : List.drop (((k * r : Nat) : Int)).toNat (List.take ((s.length : Nat) : Int).toNat s) = chunk r s k := by
        rw [Int.toNat_natCast, Int.toNat_natCast, List.take_length]
        unfold chunk
        rw [List.take_of_length_le (by rw [List.length_drop]; omega)]
      (conv => whnf)
      (repeat (first | (refine CallVC.auto sec2_k ⟨zn, gn, sn, k, np, chunk r s k, rfl, rfl, rfl, rfl, congrArg _ hp, hch, by omega, hg, hs, by omega, by omega, by omega, ?_⟩; conv => whnf) | (refine Need.mk hcap ?_; conv => whnf) | (exact Out.same; conv => whnf) | (exact Out1.same; conv => whnf) | (refine QAnd.mk ?_ ?_; conv => whnf) | (apply QStepH.go; conv => whnf) | (refine Both.lit_true ?_; conv => whnf) | (refine Both.lit_false ?_; conv => whnf) | (apply QStep.go; conv => whnf) | (refine Need.mk ?_ ?_; (focus (first | omega | exact ⟨by omega, by omega⟩ | rfl | exact ⟨rfl, rfl⟩ | exact ⟨rfl, by omega, by omega⟩ | exact ⟨by omega, by omega, by omega⟩ | exact ⟨rfl, Nat.le_of_ble_eq_true rfl⟩ | exact Nat.le_of_ble_eq_true rfl | (refine ⟨rfl, rfl, ?_⟩; simp [isFar, ofV0, CV.up, SV.renL, SV.ren] <;> fail) | (refine ⟨rfl, Nat.le_of_ble_eq_true rfl, ?_⟩; simp [isFar, ofV0, CV.up, SV.renL, SV.ren] <;> fail) | (simp only [List.length_append, List.length_drop, List.length_take, List.length_replicate, List.length_map]; omega) | (simp <;> fail))); conv => whnf) | (refine ⟨_, rfl, ?_⟩; conv => whnf)))
      refine ⟨k + 1, by omega, by omega, Weak.auto ?_⟩
      (repeat' ((conv => whnf); first | exact True.intro | (refine And.intro ?_ ?_)))
      all_goals first | rfl | exact .eq rfl | exact congrArg (SV.int .i64) hk1 | exact congrArg (fun l => LObj.own 9 1 (k + 1) l true) end1
    · have hch : List.drop (((k * r : Nat) : Int)).toNat (List.take (((k * r + r : Nat) : Int)).toNat s) = chunk r s k := by
        rw [Int.toNat_natCast, Int.toNat_natCast]
        unfold chunk
        rw [List.drop_take, Nat.add_sub_cancel_left]
      (conv => whnf)
      (repeat (first | (refine CallVC.auto sec2_k ⟨zn, gn, sn, k, np, chunk r s k, rfl, rfl, rfl, rfl, congrArg _ hp, hch, by omega, hg, hs, by omega, by omega, by omega, ?_⟩; conv => whnf) | (refine Need.mk hcap ?_; conv => whnf) | (exact Out.same; conv => whnf) | (exact Out1.same; conv => whnf) | (refine QAnd.mk ?_ ?_; conv => whnf) | (apply QStepH.go; conv => whnf) | (refine Both.lit_true ?_; conv => whnf) | (refine Both.lit_false ?_; conv => whnf) | (apply QStep.go; conv => whnf) | (refine Need.mk ?_ ?_; (focus (first | omega | exact ⟨by omega, by omega⟩ | rfl | exact ⟨rfl, rfl⟩ | exact ⟨rfl, by omega, by omega⟩ | exact ⟨by omega, by omega, by omega⟩ | exact ⟨rfl, Nat.le_of_ble_eq_true rfl⟩ | exact Nat.le_of_ble_eq_true rfl | (refine ⟨rfl, rfl, ?_⟩; simp [isFar, ofV0, CV.up, SV.renL, SV.ren] <;> fail) | (refine ⟨rfl, Nat.le_of_ble_eq_true rfl, ?_⟩; simp [isFar, ofV0, CV.up, SV.renL, SV.ren] <;> fail) | (simp only [List.length_append, List.length_drop, List.length_take, List.length_replicate, List.length_map]; omega) | (simp <;> fail))); conv => whnf) | (refine ⟨_, rfl, ?_⟩; conv => whnf)))
      refine ⟨k + 1, by omega, by omega, Weak.auto ?_⟩
      (repeat' ((conv => whnf); first | exact True.intro | (refine And.intro ?_ ?_)))
      all_goals first | rfl | exact .eq rfl | exact congrArg (SV.int .i64) hk1 | exact congrArg (fun l => LObj.own 9 1 (k + 1) l true) end1
  have hkn : k = np := by omega
  subst hkn
  have hall : splitT zn gn sn s k = splitL (zn : Int).toNat gn sn s := by
    unfold splitT splitL
    rw [htn, hr, hnp]
  rw [← hall, splitT_len] at h
  (conv => whnf)
  (repeat (first | (exact Out.same; conv => whnf) | (exact Out1.same; conv => whnf) | (refine QAnd.mk ?_ ?_; conv => whnf) | (apply QStepH.go; conv => whnf) | (refine Both.lit_true ?_; conv => whnf) | (refine Both.lit_false ?_; conv => whnf) | (apply QStep.go; conv => whnf) | (refine Need.mk ?_ ?_; (focus (first | omega | exact ⟨by omega, by omega⟩ | rfl | exact ⟨rfl, rfl⟩ | exact ⟨rfl, by omega, by omega⟩ | exact ⟨by omega, by omega, by omega⟩ | exact ⟨rfl, Nat.le_of_ble_eq_true rfl⟩ | exact Nat.le_of_ble_eq_true rfl | (refine ⟨rfl, rfl, ?_⟩; simp [isFar, ofV0, CV.up, SV.renL, SV.ren] <;> fail) | (refine ⟨rfl, Nat.le_of_ble_eq_true rfl, ?_⟩; simp [isFar, ofV0, CV.up, SV.renL, SV.ren] <;> fail) | (simp only [List.length_append, List.length_drop, List.length_take, List.length_replicate, List.length_map]; omega) | (simp <;> fail))); conv => whnf) | (refine ⟨_, rfl, ?_⟩; conv => whnf)))
  refine ⟨_, _, WeakV.auto ?_, h⟩
  (repeat' ((conv => whnf); first | exact True.intro | (refine And.intro ?_ ?_)))
  all_goals first | rfl | exact .eq rfl
theorem rsplit_k : Contract Try.prog [] 6 splitS := ⟨⟨⟨_, rfl, rfl, rfl⟩⟩, rsplit_c⟩
end Go.LX
