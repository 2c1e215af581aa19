import Derived.Test.YtgglchlppomkcaaDj
set_option maxRecDepth 100000
set_option maxHeartbeats 1000000
set_option autoImplicit false
set_option linter.unusedVariables false
set_option linter.unusedSimpArgs false
namespace Go.LX
open Go.Proofs

/-! ### The document's example -/
def newOkS : Spec := fun args H Q => match args, H with
  | [.int .i64 z, .int .i64 c], [] => okG z c = true ∧ Q (.tuple [.ptr 0 0, .int .i64 0]) (dB (Dsk.fresh z.toNat c.toNat))
  | _, _ => False
theorem newOk_k : Contract Try.prog [] 11 newOkS := new_k.imp fun args H Q h => by
  unfold newOkS at h
  split at h
  case h_2 => exact h.elim
  obtain ⟨h1, h2⟩ := h
  show _ ∧ _
  exact ⟨fun h0 => absurd (h1.symm.trans h0) (by decide), fun _ => h2⟩
def newBadS : Spec := fun args H Q => match args, H with
  | [.int .i64 z, .int .i64 c], [] => okG z c = false ∧ Q (.tuple [.nil, .int .i64 1]) []
  | _, _ => False
theorem newBad_k : Contract Try.prog [] 11 newBadS := new_k.imp fun args H Q h => by
  unfold newBadS at h
  split at h
  case h_2 => exact h.elim
  obtain ⟨h1, h2⟩ := h
  show _ ∧ _
  exact ⟨fun _ => h2, fun h0 => absurd (h1.symm.trans h0) (by decide)⟩
def awakeS : Spec := fun args H Q => match args, H with
  | [], [] => Q (.bool true) []
  | _, _ => False
def aw1 : Bs := (List.replicate 63 (CV.int .u8 0)).map cvByte ++ [120]
def awD1 : Dsk := { Dsk.fresh 64 2 with buf := [(1, aw1)] }
theorem aw_wr : (Dsk.fresh 64 2).wr 1 aw1 = (0, awD1) := by
  rw [Dsk.wr, if_pos ⟨by decide, by decide, by decide⟩, if_neg (by decide)]
  rfl
theorem aw_rd : awD1.rd 1 = (aw1, 0) := by
  rw [Dsk.rd, if_pos ⟨by decide, by decide⟩]
  rfl
theorem aw_rd2 : (awD1.cr []).rd 1 = (Z 64, 0) := by
  rw [Dsk.rd, if_pos ⟨by decide, by decide⟩]
  rfl
theorem awD1_ok : awD1.Ok := by
  have := Dsk.Ok.wr (D := Dsk.fresh 64 2) (Dsk.fresh_ok (z := 64) (c := 2) (by decide) (by decide)) (n := 1) (s := aw1) (by decide)
  rw [aw_wr] at this
  exact this
theorem awake_c : Meets Try.prog [] 9 awakeS := by
  refine meets_of Γok Try.func9 rfl ?_
  intro args H Q h
  unfold awakeS at h
  split at h
  case h_2 => exact h.elim
  have ok0 := Dsk.fresh_ok (z := 64) (c := 2) (by decide) (by decide)
  have hz : List.map cvByte (zerosOf 1 64 [CV.int .u8 0]) = Z 64 := zeros_bytes 64
  have hcv : ∀ n : Nat, (zerosOf 1 n [CV.int .u8 0]).length = n ∧ ∀ x ∈ zerosOf 1 n [CV.int .u8 0], isU8 x = true := by
    intro n
    refine ⟨List.length_replicate, fun x hx => ?_⟩
    rw [List.eq_of_mem_replicate hx]
    rfl
  have m63 : (63 : Int) = 63 ∧ (0 : Int) ≤ 63 ∧ (1 : Int) * 63 ≤ 140737488355328 ∧ (63 : Int) ≤ 140737488355328 := by decide
  have m64 : (64 : Int) = 64 ∧ (0 : Int) ≤ 64 ∧ (1 : Int) * 64 ≤ 140737488355328 ∧ (64 : Int) ≤ 140737488355328 := by decide
  (refine sx_sound Γok _ ?_; conv => whnf)
  (repeat (first | (refine Need.mk m63 ?_; conv => whnf) | (refine CallVC.auto newOk_k ⟨rfl, ?_⟩; conv => whnf) | (refine Need.mk (hcv 63) ?_; conv => whnf) | (exact Out.same; conv => whnf) | (exact Out1.same; conv => whnf) | (refine QAnd.mk ?_ ?_; conv => whnf) | (apply QStepH.go; conv => whnf) | (refine Both.lit_true ?_; conv => whnf) | (refine Both.lit_false ?_; conv => whnf) | (apply QStep.go; conv => whnf) | (refine Need.mk ?_ ?_; (focus (first | omega | exact ⟨by omega, by omega⟩ | rfl | exact ⟨rfl, rfl⟩ | exact ⟨rfl, by omega, by omega⟩ | exact ⟨by omega, by omega, by omega⟩ | exact ⟨rfl, Nat.le_of_ble_eq_true rfl⟩ | exact Nat.le_of_ble_eq_true rfl | (refine ⟨rfl, rfl, ?_⟩; simp [isFar, ofV0, CV.up, SV.renL, SV.ren] <;> fail) | (refine ⟨rfl, Nat.le_of_ble_eq_true rfl, ?_⟩; simp [isFar, ofV0, CV.up, SV.renL, SV.ren] <;> fail) | (simp only [List.length_append, List.length_drop, List.length_take, List.length_replicate, List.length_map]; omega) | (simp <;> fail))); conv => whnf) | (refine ⟨_, rfl, ?_⟩; conv => whnf)))
  refine CallVC.auto write_k ⟨Dsk.fresh 64 2, rfl, rfl, rfl, rfl, rfl, rfl, rfl, ok0, ⟨by decide, ?_⟩⟩
  intro e D' he
  have he : (e, D') = (0, awD1) := he.trans aw_wr
  cases he
  (conv => whnf)
  (repeat (first | (exact Out.same; conv => whnf) | (exact Out1.same; conv => whnf) | (refine QAnd.mk ?_ ?_; conv => whnf) | (apply QStepH.go; conv => whnf) | (refine Both.lit_true ?_; conv => whnf) | (refine Both.lit_false ?_; conv => whnf) | (apply QStep.go; conv => whnf) | (refine Need.mk ?_ ?_; (focus (first | omega | exact ⟨by omega, by omega⟩ | rfl | exact ⟨rfl, rfl⟩ | exact ⟨rfl, by omega, by omega⟩ | exact ⟨by omega, by omega, by omega⟩ | exact ⟨rfl, Nat.le_of_ble_eq_true rfl⟩ | exact Nat.le_of_ble_eq_true rfl | (refine ⟨rfl, rfl, ?_⟩; simp [isFar, ofV0, CV.up, SV.renL, SV.ren] <;> fail) | (refine ⟨rfl, Nat.le_of_ble_eq_true rfl, ?_⟩; simp [isFar, ofV0, CV.up, SV.renL, SV.ren] <;> fail) | (simp only [List.length_append, List.length_drop, List.length_take, List.length_replicate, List.length_map]; omega) | (simp <;> fail))); conv => whnf) | (refine ⟨_, rfl, ?_⟩; conv => whnf)))
  refine CallVC.auto read_k ⟨awD1, rfl, rfl, rfl, rfl, rfl, rfl, rfl, awD1_ok, ?_⟩
  intro s e he
  have he := he.trans aw_rd
  cases he
  (conv => whnf)
  (repeat (first | (exact Out.same; conv => whnf) | (exact Out1.same; conv => whnf) | (refine QAnd.mk ?_ ?_; conv => whnf) | (apply QStepH.go; conv => whnf) | (refine Both.lit_true ?_; conv => whnf) | (refine Both.lit_false ?_; conv => whnf) | (apply QStep.go; conv => whnf) | (refine Need.mk ?_ ?_; (focus (first | omega | exact ⟨by omega, by omega⟩ | rfl | exact ⟨rfl, rfl⟩ | exact ⟨rfl, by omega, by omega⟩ | exact ⟨by omega, by omega, by omega⟩ | exact ⟨rfl, Nat.le_of_ble_eq_true rfl⟩ | exact Nat.le_of_ble_eq_true rfl | (refine ⟨rfl, rfl, ?_⟩; simp [isFar, ofV0, CV.up, SV.renL, SV.ren] <;> fail) | (refine ⟨rfl, Nat.le_of_ble_eq_true rfl, ?_⟩; simp [isFar, ofV0, CV.up, SV.renL, SV.ren] <;> fail) | (simp only [List.length_append, List.length_drop, List.length_take, List.length_replicate, List.length_map]; omega) | (simp <;> fail))); conv => whnf) | (refine ⟨_, rfl, ?_⟩; conv => whnf)))
  refine CallVC.auto crash_k ⟨awD1, rfl, rfl, rfl, rfl, rfl, rfl, rfl, awD1_ok, ?_⟩
  (conv => whnf)
  (repeat (first | (exact Out.same; conv => whnf) | (exact Out1.same; conv => whnf) | (refine QAnd.mk ?_ ?_; conv => whnf) | (apply QStepH.go; conv => whnf) | (refine Both.lit_true ?_; conv => whnf) | (refine Both.lit_false ?_; conv => whnf) | (apply QStep.go; conv => whnf) | (refine Need.mk ?_ ?_; (focus (first | omega | exact ⟨by omega, by omega⟩ | rfl | exact ⟨rfl, rfl⟩ | exact ⟨rfl, by omega, by omega⟩ | exact ⟨by omega, by omega, by omega⟩ | exact ⟨rfl, Nat.le_of_ble_eq_true rfl⟩ | exact Nat.le_of_ble_eq_true rfl | (refine ⟨rfl, rfl, ?_⟩; simp [isFar, ofV0, CV.up, SV.renL, SV.ren] <;> fail) | (refine ⟨rfl, Nat.le_of_ble_eq_true rfl, ?_⟩; simp [isFar, ofV0, CV.up, SV.renL, SV.ren] <;> fail) | (simp only [List.length_append, List.length_drop, List.length_take, List.length_replicate, List.length_map]; omega) | (simp <;> fail))); conv => whnf) | (refine ⟨_, rfl, ?_⟩; conv => whnf)))
  refine CallVC.auto read_k ⟨awD1.cr [], rfl, rfl, rfl, rfl, rfl, rfl, rfl, awD1_ok.cr [], ?_⟩
  intro s e he
  have he := he.trans aw_rd2
  cases he
  (conv => whnf)
  (repeat (first | (refine Need.mk m64 ?_; conv => whnf) | (refine Need.mk (hcv 64) ?_; conv => whnf) | (exact Out.same; conv => whnf) | (exact Out1.same; conv => whnf) | (refine QAnd.mk ?_ ?_; conv => whnf) | (apply QStepH.go; conv => whnf) | (refine Both.lit_true ?_; conv => whnf) | (refine Both.lit_false ?_; conv => whnf) | (apply QStep.go; conv => whnf) | (refine Need.mk ?_ ?_; (focus (first | omega | exact ⟨by omega, by omega⟩ | rfl | exact ⟨rfl, rfl⟩ | exact ⟨rfl, by omega, by omega⟩ | exact ⟨by omega, by omega, by omega⟩ | exact ⟨rfl, Nat.le_of_ble_eq_true rfl⟩ | exact Nat.le_of_ble_eq_true rfl | (refine ⟨rfl, rfl, ?_⟩; simp [isFar, ofV0, CV.up, SV.renL, SV.ren] <;> fail) | (refine ⟨rfl, Nat.le_of_ble_eq_true rfl, ?_⟩; simp [isFar, ofV0, CV.up, SV.renL, SV.ren] <;> fail) | (simp only [List.length_append, List.length_drop, List.length_take, List.length_replicate, List.length_map]; omega) | (simp <;> fail))); conv => whnf) | (refine ⟨_, rfl, ?_⟩; conv => whnf) | (refine Both.of_false ?_ ?_; (focus (first | rfl | (simp <;> fail))); conv => whnf) | (refine Both.of_true ?_ ?_; (focus (first | rfl | (simp <;> fail))); conv => whnf)))
  refine ⟨_, _, WeakV.drop (congrArg SV.bool ?_), h⟩
  rfl
theorem awake_k : Contract Try.prog [] 9 awakeS := ⟨⟨⟨_, rfl, rfl, rfl⟩⟩, awake_c⟩
end Go.LX
