import Derived.Test.YtpfgeckbnmdmiaaHe
set_option maxRecDepth 100000
set_option maxHeartbeats 1000000
set_option autoImplicit false
set_option linter.unusedVariables false
set_option linter.unusedSimpArgs false
namespace Go.LX
open Go.Proofs

/-! ### The document's example -/
theorem hRes_put {z : Nat} {g sg : Int} (hk : hOk (z : Int) g sg = true) : hRes (z : Int) g sg = (hPut z g sg, 0) := by rw [hRes, if_pos hk, Int.toNat_natCast]
theorem hNew_two (z : Int) (a b : List UInt8) : hNew z [a, b] 2 = hStep z (hStep z ((0, 0), -1) 0 a) 1 b := rfl
theorem step_in {z : Int} {x : (Int × Int) × Int} {k : Nat} {s : List UInt8} {g sg : Int} (h : hGet z s = ((g, sg), 0)) (hx : x.1.1 < g) : hStep z x k s = ((g, sg), (k : Int)) := by
  rw [hStep, h, if_pos ⟨rfl, hx⟩]
theorem step_out {z : Int} {x : (Int × Int) × Int} {k : Nat} {s : List UInt8} (h : (hGet z s).2 ≠ 0 ∨ (hGet z s).1.1 ≤ x.1.1) : hStep z x k s = x := by
  rw [hStep, if_neg (fun h0 => by rcases h with h | h; exact h h0.1; omega)]
def awakeS : Spec := fun args H Q => match args, H with
  | [], [] => Q (.bool true) []
  | _, _ => False
theorem awake_c : Meets Try.prog [] 6 awakeS := by
  refine meets_of Γok Try.func6 rfl ?_
  intro args H Q h
  unfold awakeS at h
  split at h
  case h_2 => exact h.elim
  have k3 : hOk ((64 : Nat) : Int) 3 0 = true := by decide
  have k4 : hOk ((64 : Nat) : Int) 4 1 = true := by decide
  have p3 : hRes 64 3 0 = (hPut 64 3 0, 0) := hRes_put k3
  have p4 : hRes 64 4 1 = (hPut 64 4 1, 0) := hRes_put k4
  have g3 : hGet 64 (hPut 64 3 0) = ((3, 0), 0) := hGet_put k3 (by omega) (by omega)
  have g4 : hGet 64 (hPut 64 4 1) = ((4, 1), 0) := hGet_put k4 (by omega) (by omega)
  have l3 : (hPut 64 3 0).length = 64 := hPut_len (by omega) _ _
  have l4 : (hPut 64 4 1).length = 64 := hPut_len (by omega) _ _
  have r4 : rightB (hPut 64 4 1) = true := rightB_seal' _
  generalize hPut 64 3 0 = a at *
  generalize hPut 64 4 1 = b at *
  have i3 : ((a.length : Nat) : Int) = 64 := by rw [l3]; rfl
  have i4 : ((b.length : Nat) : Int) = 64 := by rw [l4]; rfl
  have rg3 : (0 : Int) ≤ 3 ∧ (3 : Int) < 18446744073709551616 := by omega
  have rg4 : (0 : Int) ≤ 4 ∧ (4 : Int) < 18446744073709551616 := by omega
  have n1 : hNew 64 [a, b] 2 = ((4, 1), 1) := by
    rw [hNew_two, step_in (g := 3) (sg := 0) g3 (by show (0 : Int) < 3; omega), step_in (g := 4) (sg := 1) g4 (by show (3 : Int) < 4; omega)]
    rfl
  have hcut : 0 ≤ (0 : Int) ∧ (0 : Int) ≤ 63 ∧ (63 : Int) ≤ ((b.length : Nat) : Int) := by omega
  have hcat : (List.drop (Int.toNat 0) (List.take (Int.toNat 63) b)).length + ((⟨#[63]⟩ : ByteArray).data.toList).length ≤ 9223372036854775807 := by
    show (List.take 63 b).length + 1 ≤ _
    rw [List.length_take]
    omega
  obtain ⟨b', hb'⟩ : ∃ b', List.drop (Int.toNat 0) (List.take (Int.toNat 63) b) ++ (⟨#[63]⟩ : ByteArray).data.toList = b' := ⟨_, rfl⟩
  have hb2 : b' = b.take 63 ++ [63] := hb'.symm
  have lb' : b'.length = 64 := by rw [hb2, List.length_append, List.length_take, l4]; rfl
  have n2 : b.getD 63 0 ≠ 63 → hNew 64 [a, b'] 2 = ((3, 0), 0) := by
    intro hne
    have hw : rightB b' = false := by
      cases hr : rightB b' with
      | false => rfl
      | true =>
        exfalso
        have he := right_same (n := 60) (by rw [l4]) (by rw [lb']) r4 hr (by
          rw [hb2, List.take_append_of_le_length (by rw [List.length_take, l4]; decide), List.take_take]
          rfl)
        apply hne
        rw [he, hb2, List.getD_eq_getElem?_getD, List.getElem?_append_right (by rw [List.length_take, l4]; decide), List.length_take, l4]
        rfl
    rw [hNew_two, step_in (g := 3) (sg := 0) g3 (by show (0 : Int) < 3; omega), step_out (.inl (hGet_wrong hw).1)]
    rfl
  have hix : 0 ≤ (63 : Int) ∧ (63 : Int) < ((b.length : Nat) : Int) := by omega
  (refine sx_sound Γok _ ?_; conv => whnf)
  (repeat (first | (exact Out.same; conv => whnf) | (exact Out1.same; conv => whnf) | (refine QAnd.mk ?_ ?_; conv => whnf) | (apply QStepH.go; conv => whnf) | (refine Both.lit_true ?_; conv => whnf) | (refine Both.lit_false ?_; conv => whnf) | (apply QStep.go; conv => whnf) | (refine Need.mk ?_ ?_; (focus (first | omega | exact ⟨by omega, by omega⟩ | rfl | exact ⟨rfl, rfl⟩ | exact ⟨rfl, by omega, by omega⟩ | exact ⟨by omega, by omega, by omega⟩ | exact ⟨rfl, Nat.le_of_ble_eq_true rfl⟩ | exact Nat.le_of_ble_eq_true rfl | (refine ⟨rfl, rfl, ?_⟩; simp [isFar, ofV0, CV.up, SV.renL, SV.ren] <;> fail) | (refine ⟨rfl, Nat.le_of_ble_eq_true rfl, ?_⟩; simp [isFar, ofV0, CV.up, SV.renL, SV.ren] <;> fail) | (simp only [List.length_append, List.length_drop, List.length_take, List.length_replicate, List.length_map]; omega) | (simp <;> fail))); conv => whnf) | (refine ⟨_, rfl, ?_⟩; conv => whnf)))
  refine CallVC.auto hput_k (Need.mk rg3 ?_)
  intro s e he
  cases he.trans p3
  (conv => whnf)
  (repeat (first | (exact Out.same; conv => whnf) | (exact Out1.same; conv => whnf) | (refine QAnd.mk ?_ ?_; conv => whnf) | (apply QStepH.go; conv => whnf) | (refine Both.lit_true ?_; conv => whnf) | (refine Both.lit_false ?_; conv => whnf) | (apply QStep.go; conv => whnf) | (refine Need.mk ?_ ?_; (focus (first | omega | exact ⟨by omega, by omega⟩ | rfl | exact ⟨rfl, rfl⟩ | exact ⟨rfl, by omega, by omega⟩ | exact ⟨by omega, by omega, by omega⟩ | exact ⟨rfl, Nat.le_of_ble_eq_true rfl⟩ | exact Nat.le_of_ble_eq_true rfl | (refine ⟨rfl, rfl, ?_⟩; simp [isFar, ofV0, CV.up, SV.renL, SV.ren] <;> fail) | (refine ⟨rfl, Nat.le_of_ble_eq_true rfl, ?_⟩; simp [isFar, ofV0, CV.up, SV.renL, SV.ren] <;> fail) | (simp only [List.length_append, List.length_drop, List.length_take, List.length_replicate, List.length_map]; omega) | (simp <;> fail))); conv => whnf) | (refine ⟨_, rfl, ?_⟩; conv => whnf)))
  refine CallVC.auto hput_k (Need.mk rg4 ?_)
  intro s e he
  cases he.trans p4
  (conv => whnf)
  (repeat (first | (exact Out.same; conv => whnf) | (exact Out1.same; conv => whnf) | (refine QAnd.mk ?_ ?_; conv => whnf) | (apply QStepH.go; conv => whnf) | (refine Both.lit_true ?_; conv => whnf) | (refine Both.lit_false ?_; conv => whnf) | (apply QStep.go; conv => whnf) | (refine Need.mk ?_ ?_; (focus (first | omega | exact ⟨by omega, by omega⟩ | rfl | exact ⟨rfl, rfl⟩ | exact ⟨rfl, by omega, by omega⟩ | exact ⟨by omega, by omega, by omega⟩ | exact ⟨rfl, Nat.le_of_ble_eq_true rfl⟩ | exact Nat.le_of_ble_eq_true rfl | (refine ⟨rfl, rfl, ?_⟩; simp [isFar, ofV0, CV.up, SV.renL, SV.ren] <;> fail) | (refine ⟨rfl, Nat.le_of_ble_eq_true rfl, ?_⟩; simp [isFar, ofV0, CV.up, SV.renL, SV.ren] <;> fail) | (simp only [List.length_append, List.length_drop, List.length_take, List.length_replicate, List.length_map]; omega) | (simp <;> fail))); conv => whnf) | (refine ⟨_, rfl, ?_⟩; conv => whnf) | (refine Both.of_false ?_ ?_; (focus (first | rfl | (simp [i3, i4] <;> fail))); conv => whnf) | (refine Both.of_true ?_ ?_; (focus (first | rfl | (simp [i3, i4] <;> fail))); conv => whnf)))
  refine CallVC.auto hnew_k ⟨[a, b], rfl, rfl, by show 2 ≤ 1000; omega, fun s hs => ?_, ?_⟩
  · rcases List.mem_cons.1 hs with h1 | h1
    · rw [h1]; omega
    · rw [List.mem_singleton.1 h1]; omega
  intro g sg e he
  cases he.trans n1
  (conv => whnf)
  (repeat (first | (refine Need.mk hcut ?_; conv => whnf) | (refine Need.mk hcat ?_; conv => whnf) | (exact Out.same; conv => whnf) | (exact Out1.same; conv => whnf) | (refine QAnd.mk ?_ ?_; conv => whnf) | (apply QStepH.go; conv => whnf) | (refine Both.lit_true ?_; conv => whnf) | (refine Both.lit_false ?_; conv => whnf) | (apply QStep.go; conv => whnf) | (refine Need.mk ?_ ?_; (focus (first | omega | exact ⟨by omega, by omega⟩ | rfl | exact ⟨rfl, rfl⟩ | exact ⟨rfl, by omega, by omega⟩ | exact ⟨by omega, by omega, by omega⟩ | exact ⟨rfl, Nat.le_of_ble_eq_true rfl⟩ | exact Nat.le_of_ble_eq_true rfl | (refine ⟨rfl, rfl, ?_⟩; simp [isFar, ofV0, CV.up, SV.renL, SV.ren] <;> fail) | (refine ⟨rfl, Nat.le_of_ble_eq_true rfl, ?_⟩; simp [isFar, ofV0, CV.up, SV.renL, SV.ren] <;> fail) | (simp only [List.length_append, List.length_drop, List.length_take, List.length_replicate, List.length_map]; omega) | (simp <;> fail))); conv => whnf) | (refine ⟨_, rfl, ?_⟩; conv => whnf)))
  rw [hb']
  refine CallVC.auto hnew_k ⟨[a, b'], rfl, rfl, by show 2 ≤ 1000; omega, fun s hs => ?_, ?_⟩
  · rcases List.mem_cons.1 hs with h1 | h1
    · rw [h1]; omega
    · rw [List.mem_singleton.1 h1]; omega
  intro g sg e he
  have hq : ((b.getD (Int.toNat 63) 0).toNat : Int) = 63 ↔ b.getD 63 0 = 63 := u8_int_eq _ 63
  rcases Decidable.em (b.getD 63 0 = 63) with h63 | h63
  · have h63' := hq.2 h63
    (conv => whnf)
    (repeat (first | (refine Need.mk hix ?_; conv => whnf) | (refine Both.sure h63' ?_; conv => whnf) | (exact Out.same; conv => whnf) | (exact Out1.same; conv => whnf) | (refine QAnd.mk ?_ ?_; conv => whnf) | (apply QStepH.go; conv => whnf) | (refine Both.lit_true ?_; conv => whnf) | (refine Both.lit_false ?_; conv => whnf) | (apply QStep.go; conv => whnf) | (refine Need.mk ?_ ?_; (focus (first | omega | exact ⟨by omega, by omega⟩ | rfl | exact ⟨rfl, rfl⟩ | exact ⟨rfl, by omega, by omega⟩ | exact ⟨by omega, by omega, by omega⟩ | exact ⟨rfl, Nat.le_of_ble_eq_true rfl⟩ | exact Nat.le_of_ble_eq_true rfl | (refine ⟨rfl, rfl, ?_⟩; simp [isFar, ofV0, CV.up, SV.renL, SV.ren] <;> fail) | (refine ⟨rfl, Nat.le_of_ble_eq_true rfl, ?_⟩; simp [isFar, ofV0, CV.up, SV.renL, SV.ren] <;> fail) | (simp only [List.length_append, List.length_drop, List.length_take, List.length_replicate, List.length_map]; omega) | (simp <;> fail))); conv => whnf) | (refine ⟨_, rfl, ?_⟩; conv => whnf) | (refine Both.of_false ?_ ?_; (focus (first | rfl | (simp <;> fail))); conv => whnf) | (refine Both.of_true ?_ ?_; (focus (first | rfl | (simp <;> fail))); conv => whnf)))
    exact ⟨_, _, WeakV.drop rfl, h⟩
  · cases he.trans (n2 h63)
    have h63' : ¬ ((b.getD (Int.toNat 63) 0).toNat : Int) = 63 := fun h9 => h63 (hq.1 h9)
    (conv => whnf)
    (repeat (first | (refine Need.mk hix ?_; conv => whnf) | (refine Both.sure_not h63' ?_; conv => whnf) | (exact Out.same; conv => whnf) | (exact Out1.same; conv => whnf) | (refine QAnd.mk ?_ ?_; conv => whnf) | (apply QStepH.go; conv => whnf) | (refine Both.lit_true ?_; conv => whnf) | (refine Both.lit_false ?_; conv => whnf) | (apply QStep.go; conv => whnf) | (refine Need.mk ?_ ?_; (focus (first | omega | exact ⟨by omega, by omega⟩ | rfl | exact ⟨rfl, rfl⟩ | exact ⟨rfl, by omega, by omega⟩ | exact ⟨by omega, by omega, by omega⟩ | exact ⟨rfl, Nat.le_of_ble_eq_true rfl⟩ | exact Nat.le_of_ble_eq_true rfl | (refine ⟨rfl, rfl, ?_⟩; simp [isFar, ofV0, CV.up, SV.renL, SV.ren] <;> fail) | (refine ⟨rfl, Nat.le_of_ble_eq_true rfl, ?_⟩; simp [isFar, ofV0, CV.up, SV.renL, SV.ren] <;> fail) | (simp only [List.length_append, List.length_drop, List.length_take, List.length_replicate, List.length_map]; omega) | (simp <;> fail))); conv => whnf) | (refine ⟨_, rfl, ?_⟩; conv => whnf) | (refine Both.of_false ?_ ?_; (focus (first | rfl | (simp <;> fail))); conv => whnf) | (refine Both.of_true ?_ ?_; (focus (first | rfl | (simp <;> fail))); conv => whnf)))
    exact ⟨_, _, WeakV.drop rfl, h⟩
theorem awake_k : Contract Try.prog [] 6 awakeS := ⟨⟨⟨_, rfl, rfl, rfl⟩⟩, awake_c⟩
end Go.LX
