import Derived.Test.YtgglchlppomkcaaLj
set_option maxRecDepth 100000
set_option maxHeartbeats 1000000
set_option autoImplicit false
set_option linter.unusedVariables false
set_option linter.unusedSimpArgs false
namespace Go.LX
open Go.Proofs

/-! ## The disk -/
abbrev Bs := List UInt8
structure Dsk where
  sz : Nat
  sc : Nat
  st : List Bs
  buf : List (Int × Bs)
  ar : Nat
structure Dsk.Ok (D : Dsk) : Prop where
  sz : 64 ≤ D.sz ∧ D.sz ≤ 512
  sc : 1 ≤ D.sc ∧ D.sc ≤ 4096
  len : D.st.length = D.sc
  each : ∀ s ∈ D.st, s.length = D.sz
  buf : ∀ w ∈ D.buf, 0 ≤ w.1 ∧ w.1 < D.sc ∧ w.2.length = D.sz
  few : D.buf.length ≤ 1000000
  ar : D.ar ≤ 9223372036854775807
def wrEn (w : Int × Bs) : List CV := [.int .i64 w.1, .str w.2]
/-- What the program knows of a disk. -/
def dB (D : Dsk) : List LObj := [.cells [.int .i64 (D.sz : Int), .int .i64 (D.sc : Int), .own 1, .own 2, .int .i64 (D.ar : Int)] 46, .own 9 1 D.st.length (D.st.map CV.str) true, .own 67 2 D.buf.length (D.buf.flatMap wrEn) true]
def dA (D : Dsk) : List LObj := [.cells [.int .i64 (D.sz : Int), .int .i64 (D.sc : Int), .own 1, .own 3, .int .i64 (D.ar : Int)] 46, .own 9 1 D.st.length (D.st.map CV.str) true, .gone, .own 67 2 D.buf.length (D.buf.flatMap wrEn) true]
def dIn (H : List LObj) (k : Dsk → Prop) : Prop :=
  match H with
  | [.cells [.int .i64 z, .int .i64 c, .own 1, .own 2, .int .i64 a] 46, .own 9 1 n xs true, .own 67 2 m ys true] =>
    ∃ D : Dsk, z = D.sz ∧ c = D.sc ∧ a = D.ar ∧ n = D.st.length ∧ xs = D.st.map CV.str ∧ m = D.buf.length ∧ ys = D.buf.flatMap wrEn ∧ D.Ok ∧ k D
  | _ => False
theorem dIn_out {H : List LObj} {k : Dsk → Prop} (h : dIn H k) : ∃ D : Dsk, H = dB D ∧ D.Ok ∧ k D := by
  unfold dIn at h
  split at h
  case h_2 => exact h.elim
  obtain ⟨D, rfl, rfl, rfl, rfl, rfl, rfl, rfl, h1, h2⟩ := h
  exact ⟨D, rfl, h1, h2⟩
def inB (D : Dsk) (n : Int) : Bool := decide (0 ≤ n ∧ n < D.sc)
def thereS : Spec := fun args H Q => match args, H with
  | [.agg [.int .i64 z, .int .i64 c], .int .i64 n], [] => ∀ b : Bool, b = decide (0 ≤ n ∧ n < c) → Q (.bool b) []
  | _, _ => False
theorem there_c : Meets Try.prog [] 28 thereS := by
  refine meets_of Γok Try.func28 rfl ?_
  intro args H Q h
  unfold thereS at h
  split at h
  case h_2 => exact h.elim
  rename_i z c n
  (refine sx_sound Γok _ ?_; conv => whnf)
  (repeat (first | (exact Out.same; conv => whnf) | (exact Out1.same; conv => whnf) | (refine QAnd.mk ?_ ?_; conv => whnf) | (apply QStepH.go; conv => whnf) | (refine Both.lit_true ?_; conv => whnf) | (refine Both.lit_false ?_; conv => whnf) | (apply QStep.go; conv => whnf) | (refine Need.mk ?_ ?_; (focus (first | omega | exact ⟨by omega, by omega⟩ | rfl | exact ⟨rfl, rfl⟩ | exact ⟨rfl, by omega, by omega⟩ | exact ⟨by omega, by omega, by omega⟩ | exact ⟨rfl, Nat.le_of_ble_eq_true rfl⟩ | exact Nat.le_of_ble_eq_true rfl | (refine ⟨rfl, rfl, ?_⟩; simp [isFar, ofV0, CV.up, SV.renL, SV.ren] <;> fail) | (refine ⟨rfl, Nat.le_of_ble_eq_true rfl, ?_⟩; simp [isFar, ofV0, CV.up, SV.renL, SV.ren] <;> fail) | (simp <;> fail))); conv => whnf) | (refine ⟨_, rfl, ?_⟩; conv => whnf)))
  refine Both.dec (fun h1 => ?_) (fun h1 => ?_)
  · (conv => whnf)
    (repeat (first | (exact Out.same; conv => whnf) | (exact Out1.same; conv => whnf) | (refine QAnd.mk ?_ ?_; conv => whnf) | (apply QStepH.go; conv => whnf) | (refine Both.lit_true ?_; conv => whnf) | (refine Both.lit_false ?_; conv => whnf) | (apply QStep.go; conv => whnf) | (refine Need.mk ?_ ?_; (focus (first | omega | exact ⟨by omega, by omega⟩ | rfl | exact ⟨rfl, rfl⟩ | exact ⟨rfl, by omega, by omega⟩ | exact ⟨by omega, by omega, by omega⟩ | exact ⟨rfl, Nat.le_of_ble_eq_true rfl⟩ | exact Nat.le_of_ble_eq_true rfl | (refine ⟨rfl, rfl, ?_⟩; simp [isFar, ofV0, CV.up, SV.renL, SV.ren] <;> fail) | (refine ⟨rfl, Nat.le_of_ble_eq_true rfl, ?_⟩; simp [isFar, ofV0, CV.up, SV.renL, SV.ren] <;> fail) | (simp <;> fail))); conv => whnf) | (refine ⟨_, rfl, ?_⟩; conv => whnf)))
    refine ⟨_, _, WeakV.drop rfl, h _ ?_⟩
    simp [h1]
  · (conv => whnf)
    (repeat (first | (exact Out.same; conv => whnf) | (exact Out1.same; conv => whnf) | (refine QAnd.mk ?_ ?_; conv => whnf) | (apply QStepH.go; conv => whnf) | (refine Both.lit_true ?_; conv => whnf) | (refine Both.lit_false ?_; conv => whnf) | (apply QStep.go; conv => whnf) | (refine Need.mk ?_ ?_; (focus (first | omega | exact ⟨by omega, by omega⟩ | rfl | exact ⟨rfl, rfl⟩ | exact ⟨rfl, by omega, by omega⟩ | exact ⟨by omega, by omega, by omega⟩ | exact ⟨rfl, Nat.le_of_ble_eq_true rfl⟩ | exact Nat.le_of_ble_eq_true rfl | (refine ⟨rfl, rfl, ?_⟩; simp [isFar, ofV0, CV.up, SV.renL, SV.ren] <;> fail) | (refine ⟨rfl, Nat.le_of_ble_eq_true rfl, ?_⟩; simp [isFar, ofV0, CV.up, SV.renL, SV.ren] <;> fail) | (simp <;> fail))); conv => whnf) | (refine ⟨_, rfl, ?_⟩; conv => whnf)))
    refine ⟨_, _, WeakV.drop rfl, h _ ?_⟩
    simp [h1]
theorem there_k : Contract Try.prog [] 28 thereS := ⟨⟨⟨_, rfl, rfl, rfl⟩⟩, there_c⟩
def geoS (k : Bool) : Spec := fun args H Q => match args, H with
  | [.agg [.int .i64 z, .int .i64 c]], [] => Q (.int .i64 (if k then z else c)) []
  | _, _ => False
theorem size_c : Meets Try.prog [] 16 (geoS true) := by
  refine meets_of Γok Try.func16 rfl ?_
  intro args H Q h
  unfold geoS at h
  split at h
  case h_2 => exact h.elim
  (refine sx_sound Γok _ ?_; conv => whnf)
  (repeat (first | (exact Out.same; conv => whnf) | (exact Out1.same; conv => whnf) | (refine QAnd.mk ?_ ?_; conv => whnf) | (apply QStepH.go; conv => whnf) | (refine Both.lit_true ?_; conv => whnf) | (refine Both.lit_false ?_; conv => whnf) | (apply QStep.go; conv => whnf) | (refine Need.mk ?_ ?_; (focus (first | omega | exact ⟨by omega, by omega⟩ | rfl | exact ⟨rfl, rfl⟩ | exact ⟨rfl, by omega, by omega⟩ | exact ⟨by omega, by omega, by omega⟩ | exact ⟨rfl, Nat.le_of_ble_eq_true rfl⟩ | exact Nat.le_of_ble_eq_true rfl | (refine ⟨rfl, rfl, ?_⟩; simp [isFar, ofV0, CV.up, SV.renL, SV.ren] <;> fail) | (refine ⟨rfl, Nat.le_of_ble_eq_true rfl, ?_⟩; simp [isFar, ofV0, CV.up, SV.renL, SV.ren] <;> fail) | (simp <;> fail))); conv => whnf) | (refine ⟨_, rfl, ?_⟩; conv => whnf)))
  exact ⟨_, _, WeakV.drop rfl, h⟩
theorem size_k : Contract Try.prog [] 16 (geoS true) := ⟨⟨⟨_, rfl, rfl, rfl⟩⟩, size_c⟩
theorem sectors_c : Meets Try.prog [] 17 (geoS false) := by
  refine meets_of Γok Try.func17 rfl ?_
  intro args H Q h
  unfold geoS at h
  split at h
  case h_2 => exact h.elim
  (refine sx_sound Γok _ ?_; conv => whnf)
  (repeat (first | (exact Out.same; conv => whnf) | (exact Out1.same; conv => whnf) | (refine QAnd.mk ?_ ?_; conv => whnf) | (apply QStepH.go; conv => whnf) | (refine Both.lit_true ?_; conv => whnf) | (refine Both.lit_false ?_; conv => whnf) | (apply QStep.go; conv => whnf) | (refine Need.mk ?_ ?_; (focus (first | omega | exact ⟨by omega, by omega⟩ | rfl | exact ⟨rfl, rfl⟩ | exact ⟨rfl, by omega, by omega⟩ | exact ⟨by omega, by omega, by omega⟩ | exact ⟨rfl, Nat.le_of_ble_eq_true rfl⟩ | exact Nat.le_of_ble_eq_true rfl | (refine ⟨rfl, rfl, ?_⟩; simp [isFar, ofV0, CV.up, SV.renL, SV.ren] <;> fail) | (refine ⟨rfl, Nat.le_of_ble_eq_true rfl, ?_⟩; simp [isFar, ofV0, CV.up, SV.renL, SV.ren] <;> fail) | (simp <;> fail))); conv => whnf) | (refine ⟨_, rfl, ?_⟩; conv => whnf)))
  exact ⟨_, _, WeakV.drop rfl, h⟩
theorem sectors_k : Contract Try.prog [] 17 (geoS false) := ⟨⟨⟨_, rfl, rfl, rfl⟩⟩, sectors_c⟩
def buffS : Spec := fun args H Q => match args with
  | [.ptr 0 0] => dIn H fun D => Q (.int .i64 (D.buf.length : Int)) (dB D)
  | _ => False
theorem buff_c : Meets Try.prog [] 18 buffS := by
  refine meets_of Γok Try.func18 rfl ?_
  intro args H Q h
  unfold buffS at h
  split at h
  case h_2 => exact h.elim
  obtain ⟨D, rfl, ho, h⟩ := dIn_out h
  (refine sx_sound Γok _ ?_; conv => whnf)
  (repeat (first | (exact Out.same; conv => whnf) | (exact Out1.same; conv => whnf) | (refine QAnd.mk ?_ ?_; conv => whnf) | (apply QStepH.go; conv => whnf) | (refine Both.lit_true ?_; conv => whnf) | (refine Both.lit_false ?_; conv => whnf) | (apply QStep.go; conv => whnf) | (refine Need.mk ?_ ?_; (focus (first | omega | exact ⟨by omega, by omega⟩ | rfl | exact ⟨rfl, rfl⟩ | exact ⟨rfl, by omega, by omega⟩ | exact ⟨by omega, by omega, by omega⟩ | exact ⟨rfl, Nat.le_of_ble_eq_true rfl⟩ | exact Nat.le_of_ble_eq_true rfl | (refine ⟨rfl, rfl, ?_⟩; simp [isFar, ofV0, CV.up, SV.renL, SV.ren] <;> fail) | (refine ⟨rfl, Nat.le_of_ble_eq_true rfl, ?_⟩; simp [isFar, ofV0, CV.up, SV.renL, SV.ren] <;> fail) | (simp <;> fail))); conv => whnf) | (refine ⟨_, rfl, ?_⟩; conv => whnf)))
  refine ⟨_, _, WeakV.auto ?_, h⟩
  (repeat' ((conv => whnf); first | exact True.intro | (refine And.intro ?_ ?_)))
  all_goals first | rfl | exact .eq rfl
theorem buff_k : Contract Try.prog [] 18 buffS := ⟨⟨⟨_, rfl, rfl, rfl⟩⟩, buff_c⟩
theorem flat_len {z : Nat} : ∀ {l : List Bs}, (∀ s ∈ l, s.length = z) → l.flatten.length = l.length * z
  | [], _ => by simp
  | s :: l, h => by
    rw [List.flatten_cons, List.length_append, flat_len fun s hs => h s (List.mem_cons_of_mem _ hs), h s List.mem_cons_self, List.length_cons, Nat.add_mul]
    omega
theorem Dsk.Ok.flat {D : Dsk} (h : D.Ok) : D.st.flatten.length = D.sc * D.sz := by rw [flat_len h.each, h.len]
theorem Dsk.Ok.le {D : Dsk} (h : D.Ok) : D.sc * D.sz ≤ 4096 * 512 := Nat.mul_le_mul h.sc.2 h.sz.2
def stableS : Spec := fun args H Q => match args with
  | [.ptr 0 0] => dIn H fun D => Q (.str D.st.flatten) (dB D)
  | _ => False
theorem stable_c : Meets Try.prog [] 19 stableS := by
  refine meets_of Γok Try.func19 rfl ?_
  intro args H Q h
  unfold stableS at h
  split at h
  case h_2 => exact h.elim
  obtain ⟨D, rfl, ho, h⟩ := dIn_out h
  have h1 := ho.flat
  have h2 := ho.le
  have h3 := ho.len
  have h4 := ho.sc
  (refine sx_sound Γok _ ?_; conv => whnf)
  (repeat (first | (exact Out.same; conv => whnf) | (exact Out1.same; conv => whnf) | (refine QAnd.mk ?_ ?_; conv => whnf) | (apply QStepH.go; conv => whnf) | (refine Both.lit_true ?_; conv => whnf) | (refine Both.lit_false ?_; conv => whnf) | (apply QStep.go; conv => whnf) | (refine Need.mk ?_ ?_; (focus (first | omega | exact ⟨by omega, by omega⟩ | rfl | exact ⟨rfl, rfl⟩ | exact ⟨rfl, by omega, by omega⟩ | exact ⟨by omega, by omega, by omega⟩ | exact ⟨rfl, Nat.le_of_ble_eq_true rfl⟩ | exact Nat.le_of_ble_eq_true rfl | (refine ⟨rfl, rfl, ?_⟩; simp [isFar, ofV0, CV.up, SV.renL, SV.ren] <;> fail) | (refine ⟨rfl, Nat.le_of_ble_eq_true rfl, ?_⟩; simp [isFar, ofV0, CV.up, SV.renL, SV.ren] <;> fail) | (simp <;> fail))); conv => whnf) | (refine ⟨_, rfl, ?_⟩; conv => whnf)))
  refine CallVC.auto join_k ⟨D.st, rfl, rfl, by omega, by omega, ?_⟩
  (conv => whnf)
  (repeat (first | (exact Out.same; conv => whnf) | (exact Out1.same; conv => whnf) | (refine QAnd.mk ?_ ?_; conv => whnf) | (apply QStepH.go; conv => whnf) | (refine Both.lit_true ?_; conv => whnf) | (refine Both.lit_false ?_; conv => whnf) | (apply QStep.go; conv => whnf) | (refine Need.mk ?_ ?_; (focus (first | omega | exact ⟨by omega, by omega⟩ | rfl | exact ⟨rfl, rfl⟩ | exact ⟨rfl, by omega, by omega⟩ | exact ⟨by omega, by omega, by omega⟩ | exact ⟨rfl, Nat.le_of_ble_eq_true rfl⟩ | exact Nat.le_of_ble_eq_true rfl | (refine ⟨rfl, rfl, ?_⟩; simp [isFar, ofV0, CV.up, SV.renL, SV.ren] <;> fail) | (refine ⟨rfl, Nat.le_of_ble_eq_true rfl, ?_⟩; simp [isFar, ofV0, CV.up, SV.renL, SV.ren] <;> fail) | (simp <;> fail))); conv => whnf) | (refine ⟨_, rfl, ?_⟩; conv => whnf)))
  refine ⟨_, _, WeakV.auto ?_, h⟩
  (repeat' ((conv => whnf); first | exact True.intro | (refine And.intro ?_ ?_)))
  all_goals first | rfl | exact .eq rfl
theorem stable_k : Contract Try.prog [] 19 stableS := ⟨⟨⟨_, rfl, rfl, rfl⟩⟩, stable_c⟩
def armS : Spec := fun args H Q => match args with
  | [.ptr 0 0, .int .i64 n] => Need (-9223372036854775808 ≤ n ∧ n ≤ 9223372036854775807) (dIn H fun D => Q (.tuple []) (dB { D with ar := n.toNat }))
  | _ => False
theorem arm_c : Meets Try.prog [] 26 armS := by
  refine meets_of Γok Try.func26 rfl ?_
  intro args H Q h
  unfold armS at h
  split at h
  case h_2 => exact h.elim
  rename_i n
  obtain ⟨hn, h⟩ := h
  obtain ⟨D, rfl, ho, h⟩ := dIn_out h
  have h3 : max 0 n = ((n.toNat : Nat) : Int) := by omega
  (refine sx_sound Γok _ ?_; conv => whnf)
  (repeat (first | (exact Out.same; conv => whnf) | (exact Out1.same; conv => whnf) | (refine QAnd.mk ?_ ?_; conv => whnf) | (apply QStepH.go; conv => whnf) | (refine Both.lit_true ?_; conv => whnf) | (refine Both.lit_false ?_; conv => whnf) | (apply QStep.go; conv => whnf) | (refine Need.mk ?_ ?_; (focus (first | omega | exact ⟨by omega, by omega⟩ | rfl | exact ⟨rfl, rfl⟩ | exact ⟨rfl, by omega, by omega⟩ | exact ⟨by omega, by omega, by omega⟩ | exact ⟨rfl, Nat.le_of_ble_eq_true rfl⟩ | exact Nat.le_of_ble_eq_true rfl | (refine ⟨rfl, rfl, ?_⟩; simp [isFar, ofV0, CV.up, SV.renL, SV.ren] <;> fail) | (refine ⟨rfl, Nat.le_of_ble_eq_true rfl, ?_⟩; simp [isFar, ofV0, CV.up, SV.renL, SV.ren] <;> fail) | (simp <;> fail))); conv => whnf) | (refine ⟨_, rfl, ?_⟩; conv => whnf)))
  refine ⟨_, _, WeakV.auto ?_, h⟩
  (repeat' ((conv => whnf); first | exact True.intro | (refine And.intro ?_ ?_)))
  all_goals first | rfl | exact .eq (congrArg (fun x => [SV.int .i64 (D.sz : Int), .int .i64 (D.sc : Int), .own 1, .own 2, .int .i64 x]) h3) | exact .eq rfl
theorem arm_k : Contract Try.prog [] 26 armS := ⟨⟨⟨_, rfl, rfl, rfl⟩⟩, arm_c⟩
def failS : Spec := fun args H Q => match args with
  | [.ptr 0 0] => dIn H fun D => ∀ b : Bool, b = decide (D.ar = 1) → Q (.bool b) (dB { D with ar := D.ar - 1 })
  | _ => False
theorem fail_c : Meets Try.prog [] 30 failS := by
  refine meets_of Γok Try.func30 rfl ?_
  intro args H Q h
  unfold failS at h
  split at h
  case h_2 => exact h.elim
  obtain ⟨D, rfl, ho, h⟩ := dIn_out h
  have h1 := ho.ar
  (refine sx_sound Γok _ ?_; conv => whnf)
  (repeat (first | (exact Out.same; conv => whnf) | (exact Out1.same; conv => whnf) | (refine QAnd.mk ?_ ?_; conv => whnf) | (apply QStepH.go; conv => whnf) | (refine Both.lit_true ?_; conv => whnf) | (refine Both.lit_false ?_; conv => whnf) | (apply QStep.go; conv => whnf) | (refine Need.mk ?_ ?_; (focus (first | omega | exact ⟨by omega, by omega⟩ | rfl | exact ⟨rfl, rfl⟩ | exact ⟨rfl, by omega, by omega⟩ | exact ⟨by omega, by omega, by omega⟩ | exact ⟨rfl, Nat.le_of_ble_eq_true rfl⟩ | exact Nat.le_of_ble_eq_true rfl | (refine ⟨rfl, rfl, ?_⟩; simp [isFar, ofV0, CV.up, SV.renL, SV.ren] <;> fail) | (refine ⟨rfl, Nat.le_of_ble_eq_true rfl, ?_⟩; simp [isFar, ofV0, CV.up, SV.renL, SV.ren] <;> fail) | (simp <;> fail))); conv => whnf) | (refine ⟨_, rfl, ?_⟩; conv => whnf)))
  refine Both.dec (fun h2 => ?_) (fun h2 => ?_)
  · have h3 : (D.ar : Int) = ((D.ar - 1 : Nat) : Int) := by omega
    (conv => whnf)
    (repeat (first | (exact Out.same; conv => whnf) | (exact Out1.same; conv => whnf) | (refine QAnd.mk ?_ ?_; conv => whnf) | (apply QStepH.go; conv => whnf) | (refine Both.lit_true ?_; conv => whnf) | (refine Both.lit_false ?_; conv => whnf) | (apply QStep.go; conv => whnf) | (refine Need.mk ?_ ?_; (focus (first | omega | exact ⟨by omega, by omega⟩ | rfl | exact ⟨rfl, rfl⟩ | exact ⟨rfl, by omega, by omega⟩ | exact ⟨by omega, by omega, by omega⟩ | exact ⟨rfl, Nat.le_of_ble_eq_true rfl⟩ | exact Nat.le_of_ble_eq_true rfl | (refine ⟨rfl, rfl, ?_⟩; simp [isFar, ofV0, CV.up, SV.renL, SV.ren] <;> fail) | (refine ⟨rfl, Nat.le_of_ble_eq_true rfl, ?_⟩; simp [isFar, ofV0, CV.up, SV.renL, SV.ren] <;> fail) | (simp <;> fail))); conv => whnf) | (refine ⟨_, rfl, ?_⟩; conv => whnf)))
    refine ⟨_, _, WeakV.auto ?_, h false ?_⟩
    · (repeat' ((conv => whnf); first | exact True.intro | (refine And.intro ?_ ?_)))
      all_goals first | rfl | (refine .eq ?_; exact congrArg (fun x => [SV.int .i64 (D.sz : Int), .int .i64 (D.sc : Int), .own 1, .own 2, .int .i64 x]) h3) | exact .eq rfl
    · exact (decide_eq_false (by omega)).symm
  · have h3 : IntKind.i64.wrap ((D.ar : Int) - 1) = ((D.ar - 1 : Nat) : Int) := by rw [wrap_i64 (by omega) (by omega)]; omega
    (conv => whnf)
    (repeat (first | (exact Out.same; conv => whnf) | (exact Out1.same; conv => whnf) | (refine QAnd.mk ?_ ?_; conv => whnf) | (apply QStepH.go; conv => whnf) | (refine Both.lit_true ?_; conv => whnf) | (refine Both.lit_false ?_; conv => whnf) | (apply QStep.go; conv => whnf) | (refine Need.mk ?_ ?_; (focus (first | omega | exact ⟨by omega, by omega⟩ | rfl | exact ⟨rfl, rfl⟩ | exact ⟨rfl, by omega, by omega⟩ | exact ⟨by omega, by omega, by omega⟩ | exact ⟨rfl, Nat.le_of_ble_eq_true rfl⟩ | exact Nat.le_of_ble_eq_true rfl | (refine ⟨rfl, rfl, ?_⟩; simp [isFar, ofV0, CV.up, SV.renL, SV.ren] <;> fail) | (refine ⟨rfl, Nat.le_of_ble_eq_true rfl, ?_⟩; simp [isFar, ofV0, CV.up, SV.renL, SV.ren] <;> fail) | (simp <;> fail))); conv => whnf) | (refine ⟨_, rfl, ?_⟩; conv => whnf)))
    refine ⟨_, _, WeakV.auto ?_, h (decide (IntKind.i64.wrap ((D.ar : Int) - 1) = 0)) ?_⟩
    · (repeat' ((conv => whnf); first | exact True.intro | (refine And.intro ?_ ?_)))
      all_goals first | rfl | (refine .eq ?_; exact congrArg (fun x => [SV.int .i64 (D.sz : Int), .int .i64 (D.sc : Int), .own 1, .own 2, .int .i64 x]) h3) | exact .eq rfl
    · show decide (IntKind.i64.wrap ((D.ar : Int) - 1) = 0) = _
      rw [h3]
      exact decide_eq_decide.2 (by omega)
theorem fail_k : Contract Try.prog [] 30 failS := ⟨⟨⟨_, rfl, rfl, rfl⟩⟩, fail_c⟩
end Go.LX
