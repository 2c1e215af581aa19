import Derived.Test.YtbpjbpffkpokpaaPa
import Derived.Test.YtbpjbpffkpokpaaWireB
import Derived.Lib.Bytealg
import Derived.KernelRfl
set_option maxRecDepth 100000
set_option maxHeartbeats 4000000
set_option autoImplicit false
set_option linter.unusedVariables false
set_option linter.unusedSimpArgs false
namespace Go.LX
open Go.Proofs

/-! ## Keys -/
theorem ibs (E : Env) (w : World) (l : List UInt8) (c : Int) (vs : List Value) (h : VRs E w [.str l, .int .u8 c] vs) :
    ∃ v, (callFunc 51 vs.toArray).run Try.prog w = .ok (.value v) w ∧ VR E w (.int .i64 (Lib.indexByte l c.toNat.toUInt8)) v := by
  obtain ⟨h1, h2⟩ := h
  match vs, h1 with
  | [a, b], _ =>
    have ha := h2 0 _ a rfl rfl
    have hb := h2 1 _ b rfl rfl
    cases ha
    cases hb
    refine ⟨_, ?_, .int _ _⟩
    rw [Go.run_callFunc_extern Try.func51 (by kernel_rfl) (by kernel_rfl) (by kernel_rfl) (e := Extern.BytealgIndexByte.indexByte) (by kernel_rfl)]
    have := Lib.run_indexByteString (P := Try.prog) ⟨l.toArray⟩ c w
    simp [this]
def sibS : Spec := fun args H Q => match args, H with
  | [.str s, .int .u8 c], [] => Q (.int .i64 (Lib.indexByte s c.toNat.toUInt8)) []
  | _, _ => False
theorem sib_c : Meets Try.prog [] 46 sibS := by
  refine meets_of Γok Try.func46 rfl ?_
  intro args H Q h
  unfold sibS at h
  split at h
  case h_2 => exact h.elim
  rename_i s c
  (refine sx_sound Γok _ ?_; conv => whnf)
  refine CallVC.ext _ (fun E w vs h => ibs E w s c vs h) ?_
  (conv => whnf)
  exact ⟨_, _, WeakV.drop rfl, h⟩
theorem sib_k : Contract Try.prog [] 46 sibS := ⟨⟨⟨_, rfl, rfl, rfl⟩⟩, sib_c⟩
def six1S : Spec := fun args H Q => match args, H with
  | [.str s, .str [b]], [] => Need (s.length ≠ 1) (Q (.int .i64 (Lib.indexByte s b)) [])
  | _, _ => False
theorem six1_c : Meets Try.prog [] 43 six1S := by
  refine meets_of Γok Try.func43 rfl ?_
  intro args H Q h
  unfold six1S at h
  split at h
  case h_2 => exact h.elim
  rename_i s b
  obtain ⟨hs, h⟩ := h
  (refine sx_sound Γok _ ?_; conv => whnf)
  (repeat (first | (exact Out.same; conv => whnf) | (exact Out1.same; conv => whnf) | (refine QAnd.mk ?_ ?_; conv => whnf) | (apply QStepH.go; conv => whnf) | (refine Both.lit_true ?_; conv => whnf) | (refine Both.lit_false ?_; conv => whnf) | (apply QStep.go; conv => whnf) | (refine Need.mk ?_ ?_; (focus (first | omega | exact ⟨by omega, by omega⟩ | rfl | exact ⟨rfl, rfl⟩ | exact ⟨rfl, by omega, by omega⟩ | exact ⟨by omega, by omega, by omega⟩ | exact ⟨rfl, Nat.le_of_ble_eq_true rfl⟩ | exact Nat.le_of_ble_eq_true rfl | (refine ⟨rfl, rfl, ?_⟩; simp [isFar, ofV0, CV.up, SV.renL, SV.ren] <;> fail) | (refine ⟨rfl, Nat.le_of_ble_eq_true rfl, ?_⟩; simp [isFar, ofV0, CV.up, SV.renL, SV.ren] <;> fail) | (simp <;> fail))); conv => whnf) | (refine ⟨_, rfl, ?_⟩; conv => whnf)))
  refine Both.dec (fun h0 => absurd (by rw [← h0]; rfl) hs) (fun h0 => ?_)
  (conv => whnf)
  (repeat (first | (exact Out.same; conv => whnf) | (exact Out1.same; conv => whnf) | (refine QAnd.mk ?_ ?_; conv => whnf) | (apply QStepH.go; conv => whnf) | (refine Both.lit_true ?_; conv => whnf) | (refine Both.lit_false ?_; conv => whnf) | (apply QStep.go; conv => whnf) | (refine Need.mk ?_ ?_; (focus (first | omega | exact ⟨by omega, by omega⟩ | rfl | exact ⟨rfl, rfl⟩ | exact ⟨rfl, by omega, by omega⟩ | exact ⟨by omega, by omega, by omega⟩ | exact ⟨rfl, Nat.le_of_ble_eq_true rfl⟩ | exact Nat.le_of_ble_eq_true rfl | (refine ⟨rfl, rfl, ?_⟩; simp [isFar, ofV0, CV.up, SV.renL, SV.ren] <;> fail) | (refine ⟨rfl, Nat.le_of_ble_eq_true rfl, ?_⟩; simp [isFar, ofV0, CV.up, SV.renL, SV.ren] <;> fail) | (simp <;> fail))); conv => whnf) | (refine ⟨_, rfl, ?_⟩; conv => whnf)))
  refine CallVC.auto sib_k ?_
  (conv => whnf)
  refine ⟨_, _, WeakV.drop (congrArg (SV.int .i64) ?_), h⟩
  simp
theorem six1_k : Contract Try.prog [] 43 six1S := ⟨⟨⟨_, rfl, rfl, rfl⟩⟩, six1_c⟩
def idx1S : Spec := six1S
theorem idx1_c : Meets Try.prog [] 35 six1S := by
  refine meets_of Γok Try.func35 rfl ?_
  intro args H Q h
  unfold six1S at h
  split at h
  case h_2 => exact h.elim
  obtain ⟨hs, h⟩ := h
  (refine sx_sound Γok _ ?_; conv => whnf)
  refine CallVC.auto six1_k (Need.mk hs ?_)
  (conv => whnf)
  exact ⟨_, _, WeakV.drop rfl, h⟩
theorem idx1_k : Contract Try.prog [] 35 six1S := ⟨⟨⟨_, rfl, rfl, rfl⟩⟩, idx1_c⟩
def con1S : Spec := fun args H Q => match args, H with
  | [.str s, .str [b]], [] => Need (s.length ≠ 1) (Q (.bool (decide (0 ≤ Lib.indexByte s b))) [])
  | _, _ => False
theorem con1_c : Meets Try.prog [] 25 con1S := by
  refine meets_of Γok Try.func25 rfl ?_
  intro args H Q h
  unfold con1S at h
  split at h
  case h_2 => exact h.elim
  obtain ⟨hs, h⟩ := h
  (refine sx_sound Γok _ ?_; conv => whnf)
  refine CallVC.auto idx1_k (Need.mk hs ?_)
  (conv => whnf)
  exact ⟨_, _, WeakV.drop rfl, h⟩
theorem con1_k : Contract Try.prog [] 25 con1S := ⟨⟨⟨_, rfl, rfl, rfl⟩⟩, con1_c⟩
theorem cra (b : UInt8) : decide (0 ≤ Lib.indexByte [99, 114, 97] b) = decide (b = 99 ∨ b = 114 ∨ b = 97) := by
  unfold Lib.indexByte Lib.indexByte Lib.indexByte Lib.indexByte
  by_cases h1 : b = 99
  · subst h1; rfl
  by_cases h2 : b = 114
  · subst h2; rfl
  by_cases h3 : b = 97
  · subst h3; rfl
  have e1 : (99 == b) = false := by simpa using Ne.symm h1
  have e2 : (114 == b) = false := by simpa using Ne.symm h2
  have e3 : (97 == b) = false := by simpa using Ne.symm h3
  simp [e1, e2, e3, h1, h2, h3]
def keyS : Spec := fun args H Q => match args, H with
  | [.str a, .int .u64 n], [] => Need (0 ≤ n ∧ n < 18446744073709551616 ∧ a.length < 1000) (Q (.str (a ++ beb n.toNat 8)) [])
  | _, _ => False
theorem key_c : Meets Try.prog [] 23 keyS := by
  refine meets_of Γok Try.func23 rfl ?_
  intro args H Q h
  unfold keyS at h
  split at h
  case h_2 => exact h.elim
  rename_i a n
  obtain ⟨⟨h0, h1, h2⟩, h⟩ := h
  (refine sx_sound Γok _ ?_; conv => whnf)
  refine CallVC.autoW _ (Weak.wr 0 5 rfl) rawOk_k (Need.mk (by omega) ⟨[], rfl, rfl, by simp, ?_⟩)
  (conv => whnf)
  refine CallVC.auto numOk_k (Need.mk ⟨h0, h1⟩ ⟨_, rfl, rfl, by simp; omega, ?_⟩)
  (conv => whnf)
  refine CallVC.auto bytes_k ⟨_, rfl, rfl, by simp [beb_length]; omega, ?_⟩
  (conv => whnf)
  refine ⟨_, _, WeakV.drop (congrArg SV.str ?_), h⟩
  simp
theorem key_k : Contract Try.prog [] 23 keyS := ⟨⟨⟨_, rfl, rfl, rfl⟩⟩, key_c⟩
def skeyS (c : UInt8) : Spec := fun args H Q => match args, H with
  | [.int .u64 n], [] => Need (0 ≤ n ∧ n < 18446744073709551616) (Q (.str (c :: beb n.toNat 8)) [])
  | _, _ => False
theorem sent_c : Meets Try.prog [] 8 (skeyS 99) := by
  refine meets_of Γok Try.func8 rfl ?_
  intro args H Q h
  unfold skeyS at h
  split at h
  case h_2 => exact h.elim
  obtain ⟨⟨h0, h1⟩, h⟩ := h
  (refine sx_sound Γok _ ?_; conv => whnf)
  refine CallVC.auto key_k (Need.mk ⟨h0, h1, by simp⟩ ?_)
  (conv => whnf)
  exact ⟨_, _, WeakV.drop rfl, h⟩
theorem sent_k : Contract Try.prog [] 8 (skeyS 99) := ⟨⟨⟨_, rfl, rfl, rfl⟩⟩, sent_c⟩
theorem recv_c : Meets Try.prog [] 10 (skeyS 114) := by
  refine meets_of Γok Try.func10 rfl ?_
  intro args H Q h
  unfold skeyS at h
  split at h
  case h_2 => exact h.elim
  obtain ⟨⟨h0, h1⟩, h⟩ := h
  (refine sx_sound Γok _ ?_; conv => whnf)
  refine CallVC.auto key_k (Need.mk ⟨h0, h1, by simp⟩ ?_)
  (conv => whnf)
  exact ⟨_, _, WeakV.drop rfl, h⟩
theorem recv_k : Contract Try.prog [] 10 (skeyS 114) := ⟨⟨⟨_, rfl, rfl, rfl⟩⟩, recv_c⟩
theorem answ_c : Meets Try.prog [] 11 (skeyS 97) := by
  refine meets_of Γok Try.func11 rfl ?_
  intro args H Q h
  unfold skeyS at h
  split at h
  case h_2 => exact h.elim
  obtain ⟨⟨h0, h1⟩, h⟩ := h
  (refine sx_sound Γok _ ?_; conv => whnf)
  refine CallVC.auto key_k (Need.mk ⟨h0, h1, by simp⟩ ?_)
  (conv => whnf)
  exact ⟨_, _, WeakV.drop rfl, h⟩
theorem answ_k : Contract Try.prog [] 11 (skeyS 97) := ⟨⟨⟨_, rfl, rfl, rfl⟩⟩, answ_c⟩
/-- Whether a text is a key. -/
def isKey (k : List UInt8) : Bool := decide (k.length = 9 ∧ (k.getD 0 0 = 99 ∨ k.getD 0 0 = 114 ∨ k.getD 0 0 = 97))
def seqS : Spec := fun args H Q => match args, H with
  | [.str k], [] => Need (k.length < 1000000) (∀ (n : Nat) (b : Bool), b = isKey k → n = (if isKey k then bev (k.drop 1) else 0) → Q (.tuple [.int .u64 (n : Int), .bool b]) [])
  | _, _ => False
theorem seq_c : Meets Try.prog [] 12 seqS := by
  refine meets_of Γok Try.func12 rfl ?_
  intro args H Q h
  unfold seqS at h
  split at h
  case h_2 => exact h.elim
  rename_i k
  obtain ⟨hk, h⟩ := h
  have bad : isKey k = false → Q (.tuple [.int .u64 0, .bool false]) [] := fun h0 => by
    have := h 0 false h0.symm (by rw [h0]; rfl)
    exact this
  (refine sx_sound Γok _ ?_; conv => whnf)
  refine Both.dec_not (fun h0 => ?_) (fun h0 => ?_)
  · (conv => whnf)
    (repeat (first | (exact Out.same; conv => whnf) | (exact Out1.same; conv => whnf) | (refine QAnd.mk ?_ ?_; conv => whnf) | (apply QStepH.go; conv => whnf) | (refine Both.lit_true ?_; conv => whnf) | (refine Both.lit_false ?_; conv => whnf) | (apply QStep.go; conv => whnf) | (refine Need.mk ?_ ?_; (focus (first | omega | exact ⟨by omega, by omega⟩ | rfl | exact ⟨rfl, rfl⟩ | exact ⟨rfl, by omega, by omega⟩ | exact ⟨by omega, by omega, by omega⟩ | exact ⟨rfl, Nat.le_of_ble_eq_true rfl⟩ | exact Nat.le_of_ble_eq_true rfl | (refine ⟨rfl, rfl, ?_⟩; simp [isFar, ofV0, CV.up, SV.renL, SV.ren] <;> fail) | (refine ⟨rfl, Nat.le_of_ble_eq_true rfl, ?_⟩; simp [isFar, ofV0, CV.up, SV.renL, SV.ren] <;> fail) | (simp <;> fail))); conv => whnf) | (refine ⟨_, rfl, ?_⟩; conv => whnf)))
    exact ⟨_, _, WeakV.drop rfl, bad (decide_eq_false (by omega))⟩
  (conv => whnf)
  have h9 : k.length = 9 := by omega
  obtain ⟨b, k2, rfl⟩ : ∃ b k2, k = b :: k2 := by
    cases k with
    | nil => simp at h9
    | cons b k2 => exact ⟨b, k2, rfl⟩
  have hk2 : k2.length = 8 := by simpa using h9
  have hn1 : (1 : Int) ≤ ((b :: k2).length : Int) := by rw [h0]; decide
  (repeat (first | (refine Need.mk ⟨by omega, by omega, hn1⟩ ?_; conv => whnf) | (refine CallVC.auto con1_k (Need.mk (by decide) ?_); conv => whnf) | (exact Out.same; conv => whnf) | (exact Out1.same; conv => whnf) | (refine QAnd.mk ?_ ?_; conv => whnf) | (apply QStepH.go; conv => whnf) | (refine Both.lit_true ?_; conv => whnf) | (refine Both.lit_false ?_; conv => whnf) | (apply QStep.go; conv => whnf) | (refine Need.mk ?_ ?_; (focus (first | omega | exact ⟨by omega, by omega⟩ | rfl | exact ⟨rfl, rfl⟩ | exact ⟨rfl, by omega, by omega⟩ | exact ⟨by omega, by omega, by omega⟩ | exact ⟨rfl, Nat.le_of_ble_eq_true rfl⟩ | exact Nat.le_of_ble_eq_true rfl | (refine ⟨rfl, rfl, ?_⟩; simp [isFar, ofV0, CV.up, SV.renL, SV.ren] <;> fail) | (refine ⟨rfl, Nat.le_of_ble_eq_true rfl, ?_⟩; simp [isFar, ofV0, CV.up, SV.renL, SV.ren] <;> fail) | (simp <;> fail))); conv => whnf) | (refine ⟨_, rfl, ?_⟩; conv => whnf)))
  have hcra : (0 ≤ Lib.indexByte [99, 114, 97] b) ↔ (b = 99 ∨ b = 114 ∨ b = 97) := by
    exact decide_eq_decide.1 (cra b)
  have hkk : isKey (b :: k2) = decide (b = 99 ∨ b = 114 ∨ b = 97) := by
    unfold isKey
    simp [hk2]
  refine Both.dec_not (fun h1 => ?_) (fun h1 => ?_)
  · (conv => whnf)
    (repeat (first | (exact Out.same; conv => whnf) | (exact Out1.same; conv => whnf) | (refine QAnd.mk ?_ ?_; conv => whnf) | (apply QStepH.go; conv => whnf) | (refine Both.lit_true ?_; conv => whnf) | (refine Both.lit_false ?_; conv => whnf) | (apply QStep.go; conv => whnf) | (refine Need.mk ?_ ?_; (focus (first | omega | exact ⟨by omega, by omega⟩ | rfl | exact ⟨rfl, rfl⟩ | exact ⟨rfl, by omega, by omega⟩ | exact ⟨by omega, by omega, by omega⟩ | exact ⟨rfl, Nat.le_of_ble_eq_true rfl⟩ | exact Nat.le_of_ble_eq_true rfl | (refine ⟨rfl, rfl, ?_⟩; simp [isFar, ofV0, CV.up, SV.renL, SV.ren] <;> fail) | (refine ⟨rfl, Nat.le_of_ble_eq_true rfl, ?_⟩; simp [isFar, ofV0, CV.up, SV.renL, SV.ren] <;> fail) | (simp <;> fail))); conv => whnf) | (refine ⟨_, rfl, ?_⟩; conv => whnf)))
    refine ⟨_, _, WeakV.drop rfl, bad ?_⟩
    rw [hkk]
    exact decide_eq_false (fun h2 => h1 (hcra.2 h2))
  · have hkt : isKey (b :: k2) = true := by
      rw [hkk]
      exact decide_eq_true (hcra.1 h1)
    (conv => whnf)
    (repeat (first | (refine Need.mk ⟨by omega, hn1, by omega⟩ ?_; conv => whnf) | (exact Out.same; conv => whnf) | (exact Out1.same; conv => whnf) | (refine QAnd.mk ?_ ?_; conv => whnf) | (apply QStepH.go; conv => whnf) | (refine Both.lit_true ?_; conv => whnf) | (refine Both.lit_false ?_; conv => whnf) | (apply QStep.go; conv => whnf) | (refine Need.mk ?_ ?_; (focus (first | omega | exact ⟨by omega, by omega⟩ | rfl | exact ⟨rfl, rfl⟩ | exact ⟨rfl, by omega, by omega⟩ | exact ⟨by omega, by omega, by omega⟩ | exact ⟨rfl, Nat.le_of_ble_eq_true rfl⟩ | exact Nat.le_of_ble_eq_true rfl | (refine ⟨rfl, rfl, ?_⟩; simp [isFar, ofV0, CV.up, SV.renL, SV.ren] <;> fail) | (refine ⟨rfl, Nat.le_of_ble_eq_true rfl, ?_⟩; simp [isFar, ofV0, CV.up, SV.renL, SV.ren] <;> fail) | (simp <;> fail))); conv => whnf) | (refine ⟨_, rfl, ?_⟩; conv => whnf)))
    obtain ⟨t, ht⟩ : ∃ t, t = List.drop (Int.toNat 1) (List.take (((b :: k2).length : Int)).toNat (b :: k2)) := ⟨_, rfl⟩
    have htk : t = k2 := by rw [ht]; simp
    generalize List.drop (Int.toNat 1) (List.take (((b :: k2).length : Int)).toNat (b :: k2)) = t1 at ht ⊢
    subst ht
    subst htk
    (repeat (first | (exact Out.same; conv => whnf) | (exact Out1.same; conv => whnf) | (refine QAnd.mk ?_ ?_; conv => whnf) | (apply QStepH.go; conv => whnf) | (refine Both.lit_true ?_; conv => whnf) | (refine Both.lit_false ?_; conv => whnf) | (apply QStep.go; conv => whnf) | (refine Need.mk ?_ ?_; (focus (first | omega | exact ⟨by omega, by omega⟩ | rfl | exact ⟨rfl, rfl⟩ | exact ⟨rfl, by omega, by omega⟩ | exact ⟨by omega, by omega, by omega⟩ | exact ⟨rfl, Nat.le_of_ble_eq_true rfl⟩ | exact Nat.le_of_ble_eq_true rfl | (refine ⟨rfl, rfl, ?_⟩; simp [isFar, ofV0, CV.up, SV.renL, SV.ren] <;> fail) | (refine ⟨rfl, Nat.le_of_ble_eq_true rfl, ?_⟩; simp [isFar, ofV0, CV.up, SV.renL, SV.ren] <;> fail) | (simp <;> fail))); conv => whnf) | (refine ⟨_, rfl, ?_⟩; conv => whnf) | (refine CallVC.auto rnew_k ?_; conv => whnf)))
    refine CallVC.auto rnum_k (Need.mk (by omega) ?_)
    (conv => whnf)
    have hok : rdOk 0 8 t = true := decide_eq_true ⟨rfl, by omega, by omega⟩
    have hrv : rdV 0 8 t = bev t := by
      rw [rdV, rdT, if_pos hok, List.take_of_length_le (by omega)]
    have h2 := h (rdV 0 8 t) true hkt.symm (by rw [hkt, hrv]; rfl)
    refine ⟨_, _, WeakV.drop rfl, h2⟩
theorem seq_k : Contract Try.prog [] 12 seqS := ⟨⟨⟨_, rfl, rfl, rfl⟩⟩, seq_c⟩
def rkeyS : Spec := fun args H Q => match args, H with
  | [.str a, .int .u64 n], [] => Need (0 ≤ n ∧ n < 18446744073709551616 ∧ a.length < 1000) (Q (.str (a ++ beb n.toNat 8)) [])
  | _, _ => False
theorem rkey_c : Meets Try.prog [] 9 rkeyS := by
  refine meets_of Γok Try.func9 rfl ?_
  intro args H Q h
  unfold rkeyS at h
  split at h
  case h_2 => exact h.elim
  rename_i a n
  obtain ⟨⟨h0, h1, h2⟩, h⟩ := h
  (refine sx_sound Γok _ ?_; conv => whnf)
  refine CallVC.auto rb_k ⟨n.toNat, 8, by omega, by omega, rfl, by omega, ?_⟩
  (conv => whnf)
  refine Need.mk (by rw [beb_length]; omega) ?_
  (conv => whnf)
  exact ⟨_, _, WeakV.drop rfl, h⟩
theorem rkey_k : Contract Try.prog [] 9 rkeyS := ⟨⟨⟨_, rfl, rfl, rfl⟩⟩, rkey_c⟩
def trueS : Spec := fun args H Q => match args, H with
  | [], [] => Q (.bool true) []
  | _, _ => False
theorem awake_c : Meets Try.prog [] 7 trueS := by
  refine meets_of Γok Try.func7 rfl ?_
  intro args H Q h
  unfold trueS at h
  split at h
  case h_2 => exact h.elim
  (refine sx_sound Γok _ ?_; conv => whnf)
  refine CallVC.auto sent_k (Need.mk (by decide) ?_)
  (conv => whnf)
  refine CallVC.auto seq_k (Need.mk (by decide) ?_)
  intro n b hb hn
  obtain rfl : b = true := by rw [hb]; decide +kernel
  obtain rfl : n = 258 := by rw [hn]; decide +kernel
  (conv => whnf)
  refine CallVC.auto sent_k (Need.mk (by decide) ?_)
  (conv => whnf)
  refine Both.sure (by decide +kernel) ?_
  (conv => whnf)
  (repeat (first | (exact Out.same; conv => whnf) | (exact Out1.same; conv => whnf) | (refine QAnd.mk ?_ ?_; conv => whnf) | (apply QStepH.go; conv => whnf) | (refine Both.lit_true ?_; conv => whnf) | (refine Both.lit_false ?_; conv => whnf) | (apply QStep.go; conv => whnf) | (refine Need.mk ?_ ?_; (focus (first | omega | exact ⟨by omega, by omega⟩ | rfl | exact ⟨rfl, rfl⟩ | exact ⟨rfl, by omega, by omega⟩ | exact ⟨by omega, by omega, by omega⟩ | exact ⟨rfl, Nat.le_of_ble_eq_true rfl⟩ | exact Nat.le_of_ble_eq_true rfl | (refine ⟨rfl, rfl, ?_⟩; simp [isFar, ofV0, CV.up, SV.renL, SV.ren] <;> fail) | (refine ⟨rfl, Nat.le_of_ble_eq_true rfl, ?_⟩; simp [isFar, ofV0, CV.up, SV.renL, SV.ren] <;> fail) | (simp <;> fail))); conv => whnf) | (refine ⟨_, rfl, ?_⟩; conv => whnf)))
  refine CallVC.auto pcheck_k ?_
  (conv => whnf)
  intro e he
  obtain rfl : e = 1 := by rw [he]; decide +kernel
  (conv => whnf)
  (repeat (first | (exact Out.same; conv => whnf) | (exact Out1.same; conv => whnf) | (refine QAnd.mk ?_ ?_; conv => whnf) | (apply QStepH.go; conv => whnf) | (refine Both.lit_true ?_; conv => whnf) | (refine Both.lit_false ?_; conv => whnf) | (apply QStep.go; conv => whnf) | (refine Need.mk ?_ ?_; (focus (first | omega | exact ⟨by omega, by omega⟩ | rfl | exact ⟨rfl, rfl⟩ | exact ⟨rfl, by omega, by omega⟩ | exact ⟨by omega, by omega, by omega⟩ | exact ⟨rfl, Nat.le_of_ble_eq_true rfl⟩ | exact Nat.le_of_ble_eq_true rfl | (refine ⟨rfl, rfl, ?_⟩; simp [isFar, ofV0, CV.up, SV.renL, SV.ren] <;> fail) | (refine ⟨rfl, Nat.le_of_ble_eq_true rfl, ?_⟩; simp [isFar, ofV0, CV.up, SV.renL, SV.ren] <;> fail) | (simp <;> fail))); conv => whnf) | (refine ⟨_, rfl, ?_⟩; conv => whnf)))
  exact ⟨_, _, WeakV.drop rfl, h⟩
theorem awake_k : Contract Try.prog [] 7 trueS := ⟨⟨⟨_, rfl, rfl, rfl⟩⟩, awake_c⟩
end Go.LX
