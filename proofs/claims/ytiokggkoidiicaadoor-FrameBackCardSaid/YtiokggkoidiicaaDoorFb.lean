import Derived.Test.YtiokggkoidiicaaDoorFa
import Derived.Test.YtiokggkoidiicaaDoorWireB
set_option maxRecDepth 100000
set_option maxHeartbeats 1000000
set_option autoImplicit false
set_option linter.unusedVariables false
set_option linter.unusedSimpArgs false
namespace Go.LX
open Go.Proofs

/-! ## The document's sector -/
def rsealS : Spec := fun args H Q => match args, H with
  | [.str s], [] => ∃ t : List UInt8, s = t ∧ t.length < 1000000 ∧ Q (.str (Crc.seal_ t)) []
  | _, _ => False
theorem rseal_k : Contract Tryd.prog [] 69 rsealS := seal2_k.imp fun args H Q h => by
  unfold rsealS at h
  split at h
  case h_2 => exact h.elim
  obtain ⟨t, rfl, hl, h⟩ := h
  exact ⟨hl, h⟩
def rawX (size g sr k n : Nat) (b : Bz) : Bz := [82] ++ beb g 8 ++ beb sr 8 ++ beb k 1 ++ beb n 1 ++ (beb b.length 2 ++ b) ++ List.replicate (size - 25 - b.length) 0
theorem secX_raw (size g sr k n : Nat) (b : Bz) : secX size g sr k n b = Crc.seal_ (rawX size g sr k n b) := rfl
theorem rawX_len {size : Nat} {b : Bz} (h : b.length + 25 ≤ size) (g sr k n : Nat) : (rawX size g sr k n b).length = size - 4 := by
  unfold rawX
  simp only [List.length_append, beb_length, List.length_replicate, List.length_singleton]
  omega
def secS : Spec := fun args H Q => match args, H with
  | [.int .i64 z, .int .u64 g, .int .u64 sr, .int .i64 k, .int .i64 n, .str b], [] => ∃ zn gn sn kn nn : Nat, z = zn ∧ g = gn ∧ sr = sn ∧ k = kn ∧ n = nn ∧ zn ≤ 512 ∧ gn < 18446744073709551616 ∧ sn < 18446744073709551616 ∧ kn < 256 ∧ nn < 256 ∧ b.length + 25 ≤ zn ∧
    Q (.str (secX zn gn sn kn nn b)) []
  | _, _ => False
theorem sec_c : Meets Tryd.prog [] 57 secS := by
  refine meets_of Γok Tryd.func57 rfl ?_
  intro args H Q h
  unfold secS at h
  split at h
  case h_2 => exact h.elim
  rename_i b
  obtain ⟨zn, gn, sn, kn, nn, rfl, rfl, rfl, rfl, rfl, hz, hg, hs, hk, hn, hb, h⟩ := h
  have hR1 : (⟨#[82]⟩ : ByteArray).data.toList = [82] := rfl
  have h8 : (8 : Nat) ≤ 8 := by omega
  have h1 : (1 : Nat) ≤ 8 := by omega
  have h2 : (2 : Nat) ≤ 8 := by omega
  have hk1 : IntKind.u64.wrap (kn : Int) = (kn : Int) := wrap_u64 (by omega) (by omega)
  have hn1 : IntKind.u64.wrap (nn : Int) = (nn : Int) := wrap_u64 (by omega) (by omega)
  have hb1 : IntKind.u64.wrap (b.length : Int) = (b.length : Int) := wrap_u64 (by omega) (by omega)
  have hk2 : kn < 18446744073709551616 := by omega
  have hn2 : nn < 18446744073709551616 := by omega
  have hb2 : b.length < 18446744073709551616 := by omega
  have c1 : ((⟨#[82]⟩ : ByteArray).data.toList).length + (beb gn 8).length ≤ 9223372036854775807 := by rw [hR1]; simp only [List.length_append, beb_length, List.length_singleton]; all_goals omega
  have c2 : ((⟨#[82]⟩ : ByteArray).data.toList ++ beb gn 8).length + (beb sn 8).length ≤ 9223372036854775807 := by rw [hR1]; simp only [List.length_append, beb_length, List.length_singleton]; all_goals omega
  have c3 : ((⟨#[82]⟩ : ByteArray).data.toList ++ beb gn 8 ++ beb sn 8).length + (beb kn 1).length ≤ 9223372036854775807 := by rw [hR1]; simp only [List.length_append, beb_length, List.length_singleton]; all_goals omega
  have c4 : ((⟨#[82]⟩ : ByteArray).data.toList ++ beb gn 8 ++ beb sn 8 ++ beb kn 1).length + (beb nn 1).length ≤ 9223372036854775807 := by rw [hR1]; simp only [List.length_append, beb_length, List.length_singleton]; all_goals omega
  have c5 : ((⟨#[82]⟩ : ByteArray).data.toList ++ beb gn 8 ++ beb sn 8 ++ beb kn 1 ++ beb nn 1).length + (beb b.length 2).length ≤ 9223372036854775807 := by rw [hR1]; simp only [List.length_append, beb_length, List.length_singleton]; all_goals omega
  have c6 : ((⟨#[82]⟩ : ByteArray).data.toList ++ beb gn 8 ++ beb sn 8 ++ beb kn 1 ++ beb nn 1 ++ beb b.length 2).length + b.length ≤ 9223372036854775807 := by rw [hR1]; simp only [List.length_append, beb_length, List.length_singleton]; all_goals omega
  have hlb : ((⟨#[82]⟩ : ByteArray).data.toList ++ beb gn 8 ++ beb sn 8 ++ beb kn 1 ++ beb nn 1 ++ beb b.length 2 ++ b).length = 21 + b.length := by rw [hR1]; simp only [List.length_append, beb_length, List.length_singleton]; all_goals omega
  obtain ⟨T, hT⟩ : ∃ T : List UInt8, (⟨#[82]⟩ : ByteArray).data.toList ++ beb gn 8 ++ beb sn 8 ++ beb kn 1 ++ beb nn 1 ++ beb b.length 2 ++ b = T := ⟨_, rfl⟩
  rw [hT] at hlb
  have hw1 : IntKind.i64.wrap (IntKind.i64.wrap ((zn : Int) - 4) - ((T.length : Nat) : Int)) = ((zn - 25 - b.length : Nat) : Int) := by
    rw [hlb, wrap_i64 (n := (zn : Int) - 4) (by omega) (by omega), wrap_i64 (by omega) (by omega)]
    omega
  have hmk : ((zn - 25 - b.length : Nat) : Int) = ((zn - 25 - b.length : Nat) : Int) ∧ 0 ≤ ((zn - 25 - b.length : Nat) : Int) ∧ 1 * ((zn - 25 - b.length : Nat) : Int) ≤ 140737488355328 ∧ ((zn - 25 - b.length : Nat) : Int) ≤ 140737488355328 := by omega
  have hcv : (zerosOf 1 ((zn - 25 - b.length : Nat) : Int).toNat [CV.int .u8 0]).length = ((zn - 25 - b.length : Nat) : Int).toNat ∧ ∀ x ∈ zerosOf 1 ((zn - 25 - b.length : Nat) : Int).toNat [CV.int .u8 0], isU8 x = true := by
    refine ⟨List.length_replicate, fun x hx => ?_⟩
    rw [List.eq_of_mem_replicate hx]
    rfl
  have hz2 : (zerosOf 1 ((zn - 25 - b.length : Nat) : Int).toNat [CV.int .u8 0]).map cvByte = List.replicate (zn - 25 - b.length) (0 : UInt8) := by
    show (List.replicate (zn - 25 - b.length) (CV.int .u8 0)).map cvByte = _
    rw [List.map_replicate]
    rfl
  have hcat : T.length + ((zerosOf 1 ((zn - 25 - b.length : Nat) : Int).toNat [CV.int .u8 0]).map cvByte).length ≤ 9223372036854775807 := by
    rw [hlb, hz2, List.length_replicate]
    omega
  have hraw : T ++ (zerosOf 1 ((zn - 25 - b.length : Nat) : Int).toNat [CV.int .u8 0]).map cvByte = rawX zn gn sn kn nn b := by
    rw [hz2, ← hT, hR1]
    unfold rawX
    simp only [List.append_assoc]
  (refine sx_sound Γok _ ?_; conv => whnf)
  (repeat (first | (refine CallVC.auto rb_k ⟨gn, 8, rfl, hg, rfl, h8, ?_⟩; conv => whnf) | (refine CallVC.auto rb_k ⟨sn, 8, rfl, hs, rfl, h8, ?_⟩; conv => whnf) | (refine CallVC.auto rb_k ⟨kn, 1, hk1, hk2, rfl, h1, ?_⟩; conv => whnf) | (refine CallVC.auto rb_k ⟨nn, 1, hn1, hn2, rfl, h1, ?_⟩; conv => whnf) | (refine CallVC.auto rb_k ⟨b.length, 2, hb1, hb2, rfl, h2, ?_⟩; conv => whnf) | (refine Need.mk c1 ?_; conv => whnf) | (refine Need.mk c2 ?_; conv => whnf) | (refine Need.mk c3 ?_; conv => whnf) | (refine Need.mk c4 ?_; conv => whnf) | (refine Need.mk c5 ?_; conv => whnf) | (refine Need.mk c6 ?_; conv => whnf) | (exact Out.same; conv => whnf) | (exact Out1.same; conv => whnf) | (refine QAnd.mk ?_ ?_; conv => whnf) | (apply QStepH.go; conv => whnf) | (refine Both.lit_true ?_; conv => whnf) | (refine Both.lit_false ?_; conv => whnf) | (apply QStep.go; conv => whnf) | (refine Need.mk ?_ ?_; (focus (first | omega | exact ⟨by omega, by omega⟩ | rfl | exact ⟨rfl, rfl⟩ | exact ⟨rfl, by omega, by omega⟩ | exact ⟨by omega, by omega, by omega⟩ | exact ⟨rfl, Nat.le_of_ble_eq_true rfl⟩ | exact Nat.le_of_ble_eq_true rfl | (refine ⟨rfl, rfl, ?_⟩; simp [isFar, ofV0, CV.up, SV.renL, SV.ren] <;> fail) | (refine ⟨rfl, Nat.le_of_ble_eq_true rfl, ?_⟩; simp [isFar, ofV0, CV.up, SV.renL, SV.ren] <;> fail) | (simp only [List.length_append, List.length_drop, List.length_take, List.length_replicate, List.length_map]; omega) | (simp <;> fail))); conv => whnf) | (refine ⟨_, rfl, ?_⟩; conv => whnf)))
  rw [hT, hw1]
  (repeat (first | (refine Need.mk hmk ?_; conv => whnf) | (refine Need.mk hcv ?_; conv => whnf) | (refine Need.mk hcat ?_; conv => whnf) | (exact Out.same; conv => whnf) | (exact Out1.same; conv => whnf) | (refine QAnd.mk ?_ ?_; conv => whnf) | (apply QStepH.go; conv => whnf) | (refine Both.lit_true ?_; conv => whnf) | (refine Both.lit_false ?_; conv => whnf) | (apply QStep.go; conv => whnf) | (refine Need.mk ?_ ?_; (focus (first | omega | exact ⟨by omega, by omega⟩ | rfl | exact ⟨rfl, rfl⟩ | exact ⟨rfl, by omega, by omega⟩ | exact ⟨by omega, by omega, by omega⟩ | exact ⟨rfl, Nat.le_of_ble_eq_true rfl⟩ | exact Nat.le_of_ble_eq_true rfl | (refine ⟨rfl, rfl, ?_⟩; simp [isFar, ofV0, CV.up, SV.renL, SV.ren] <;> fail) | (refine ⟨rfl, Nat.le_of_ble_eq_true rfl, ?_⟩; simp [isFar, ofV0, CV.up, SV.renL, SV.ren] <;> fail) | (simp only [List.length_append, List.length_drop, List.length_take, List.length_replicate, List.length_map]; omega) | (simp <;> fail))); conv => whnf) | (refine ⟨_, rfl, ?_⟩; conv => whnf)))
  refine CallVC.auto rseal_k ⟨_, hraw, by rw [rawX_len hb]; omega, ?_⟩
  (conv => whnf)
  (repeat (first | (exact Out.same; conv => whnf) | (exact Out1.same; conv => whnf) | (refine QAnd.mk ?_ ?_; conv => whnf) | (apply QStepH.go; conv => whnf) | (refine Both.lit_true ?_; conv => whnf) | (refine Both.lit_false ?_; conv => whnf) | (apply QStep.go; conv => whnf) | (refine Need.mk ?_ ?_; (focus (first | omega | exact ⟨by omega, by omega⟩ | rfl | exact ⟨rfl, rfl⟩ | exact ⟨rfl, by omega, by omega⟩ | exact ⟨by omega, by omega, by omega⟩ | exact ⟨rfl, Nat.le_of_ble_eq_true rfl⟩ | exact Nat.le_of_ble_eq_true rfl | (refine ⟨rfl, rfl, ?_⟩; simp [isFar, ofV0, CV.up, SV.renL, SV.ren] <;> fail) | (refine ⟨rfl, Nat.le_of_ble_eq_true rfl, ?_⟩; simp [isFar, ofV0, CV.up, SV.renL, SV.ren] <;> fail) | (simp only [List.length_append, List.length_drop, List.length_take, List.length_replicate, List.length_map]; omega) | (simp <;> fail))); conv => whnf) | (refine ⟨_, rfl, ?_⟩; conv => whnf)))
  exact ⟨_, _, WeakV.drop rfl, h⟩
theorem sec_k : Contract Tryd.prog [] 57 secS := ⟨⟨⟨_, rfl, rfl, rfl⟩⟩, sec_c⟩
end Go.LX
