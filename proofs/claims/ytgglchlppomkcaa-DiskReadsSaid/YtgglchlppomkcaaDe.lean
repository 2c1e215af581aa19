import Derived.Test.YtgglchlppomkcaaDd
set_option maxRecDepth 100000
set_option maxHeartbeats 1000000
set_option autoImplicit false
set_option linter.unusedVariables false
set_option linter.unusedSimpArgs false
namespace Go.LX
open Go.Proofs

/-! ### The document's disk: all bytes one behind the other -/
def rB (D : Dsk) : List LObj := [.cells [.int .i64 (D.sz : Int), .int .i64 (D.sc : Int), .str D.st.flatten, .own 1, .int .i64 (D.ar : Int)] 58, .own 72 2 D.buf.length (D.buf.flatMap wrEn) true]
def rA (D : Dsk) : List LObj := [.cells [.int .i64 (D.sz : Int), .int .i64 (D.sc : Int), .str D.st.flatten, .own 2, .int .i64 (D.ar : Int)] 58, .gone, .own 72 2 D.buf.length (D.buf.flatMap wrEn) true]
def rIn (H : List LObj) (k : Dsk → Prop) : Prop :=
  match H with
  | [.cells [.int .i64 z, .int .i64 c, .str s, .own 1, .int .i64 a] 58, .own 72 2 m ys true] =>
    ∃ D : Dsk, z = D.sz ∧ c = D.sc ∧ s = D.st.flatten ∧ a = D.ar ∧ m = D.buf.length ∧ ys = D.buf.flatMap wrEn ∧ D.Ok ∧ k D
  | _ => False
theorem rIn_out {H : List LObj} {k : Dsk → Prop} (h : rIn H k) : ∃ D : Dsk, H = rB D ∧ D.Ok ∧ k D := by
  unfold rIn at h
  split at h
  case h_2 => exact h.elim
  obtain ⟨D, rfl, rfl, rfl, rfl, rfl, rfl, h1, h2⟩ := h
  exact ⟨D, rfl, h1, h2⟩
theorem flat_take {z : Nat} : ∀ {l : List Bs} (n : Nat), (∀ s ∈ l, s.length = z) → n ≤ l.length → l.flatten.take (n * z) = (l.take n).flatten
  | l, 0, _, _ => by simp
  | [], n + 1, _, h => by simp at h
  | s :: l, n + 1, h, hn => by
    rw [List.flatten_cons, List.take_succ_cons, List.flatten_cons, ← flat_take n (fun s hs => h s (List.mem_cons_of_mem _ hs)) (by simpa using hn), show (n + 1) * z = s.length + n * z by rw [h s List.mem_cons_self, Nat.add_mul]; omega, List.take_length_add_append]
theorem flat_drop {z : Nat} : ∀ {l : List Bs} (n : Nat), (∀ s ∈ l, s.length = z) → n ≤ l.length → l.flatten.drop (n * z) = (l.drop n).flatten
  | l, 0, _, _ => by simp
  | [], n + 1, _, h => by simp at h
  | s :: l, n + 1, h, hn => by
    rw [List.flatten_cons, List.drop_succ_cons, ← flat_drop n (fun s hs => h s (List.mem_cons_of_mem _ hs)) (by simpa using hn), show (n + 1) * z = s.length + n * z by rw [h s List.mem_cons_self, Nat.add_mul]; omega, ← List.drop_drop, List.drop_left' rfl]
/-- Bytes put at a sector's front. -/
theorem flat_put {z : Nat} {l : List Bs} (hl : ∀ s ∈ l, s.length = z) {n : Nat} (hn : n < l.length) {s : Bs} (hs : s.length ≤ z) :
    l.flatten.take (n * z) ++ s ++ l.flatten.drop (n * z + s.length) = (l.set n (s ++ (l.getD n []).drop s.length)).flatten := by
  have hd : l.getD n [] = l[n] := by rw [List.getD_eq_getElem?_getD, List.getElem?_eq_getElem hn]; rfl
  have hz : (l[n]).length = z := hl _ (List.getElem_mem hn)
  rw [flat_take n hl (Nat.le_of_lt hn), ← List.drop_drop, flat_drop n hl (Nat.le_of_lt hn), List.set_eq_take_append_cons_drop, if_pos hn, List.flatten_append, List.flatten_cons, hd, List.drop_eq_getElem_cons hn, List.flatten_cons, List.drop_append_of_le_length (by omega)]
  simp
theorem flat_cut {z : Nat} {l : List Bs} (hl : ∀ s ∈ l, s.length = z) {n : Nat} (hn : n < l.length) : (l.flatten.take ((n + 1) * z)).drop (n * z) = l.getD n [] := by
  have hd : l.getD n [] = l[n] := by rw [List.getD_eq_getElem?_getD, List.getElem?_eq_getElem hn]; rfl
  have hlen : (l.take n).flatten.length = n * z := by
    rw [flat_len (z := z) fun s hs => hl s (List.mem_of_mem_take hs), List.length_take]
    rw [Nat.min_eq_left (Nat.le_of_lt hn)]
  rw [flat_take (n + 1) hl hn, List.take_succ_eq_append_getElem hn, List.flatten_append, List.drop_left' hlen, hd]
  simp
def rrightS : Spec := fun args H Q => match args, H with
  | [.int .i64 z, .int .i64 c], [] => ∀ b : Bool, b = okG z c → Q (.bool b) []
  | _, _ => False
theorem rright_c : Meets Try.prog [] 15 rrightS := by
  refine meets_of Γok Try.func15 rfl ?_
  intro args H Q h
  unfold rrightS at h
  split at h
  case h_2 => exact h.elim
  rename_i z c
  have fin : ∀ b : Bool, (b = true ↔ (64 ≤ z ∧ z ≤ 512 ∧ 1 ≤ c ∧ c ≤ 4096)) → Q (.bool b) [] := by
    intro b hb
    refine h b ?_
    unfold okG
    cases b
    · exact (decide_eq_false (fun h0 => by have := hb.2 h0; cases this)).symm
    · exact (decide_eq_true (hb.1 rfl)).symm
  (refine sx_sound Γok _ ?_; conv => whnf)
  (repeat (first | (exact Out.same; conv => whnf) | (exact Out1.same; conv => whnf) | (refine QAnd.mk ?_ ?_; conv => whnf) | (apply QStepH.go; conv => whnf) | (refine Both.lit_true ?_; conv => whnf) | (refine Both.lit_false ?_; conv => whnf) | (apply QStep.go; conv => whnf) | (refine Need.mk ?_ ?_; (focus (first | omega | exact ⟨by omega, by omega⟩ | rfl | exact ⟨rfl, rfl⟩ | exact ⟨rfl, by omega, by omega⟩ | exact ⟨by omega, by omega, by omega⟩ | exact ⟨rfl, Nat.le_of_ble_eq_true rfl⟩ | exact Nat.le_of_ble_eq_true rfl | (refine ⟨rfl, rfl, ?_⟩; simp [isFar, ofV0, CV.up, SV.renL, SV.ren] <;> fail) | (refine ⟨rfl, Nat.le_of_ble_eq_true rfl, ?_⟩; simp [isFar, ofV0, CV.up, SV.renL, SV.ren] <;> fail) | (simp only [List.length_append, List.length_drop, List.length_take, List.length_replicate, List.length_map]; omega) | (simp <;> fail))); conv => whnf) | (refine ⟨_, rfl, ?_⟩; conv => whnf)))
  refine Both.dec (fun h1 => ?_) (fun h1 => ?_)
  all_goals
    (conv => whnf)
    (repeat (first | (exact Out.same; conv => whnf) | (exact Out1.same; conv => whnf) | (refine QAnd.mk ?_ ?_; conv => whnf) | (apply QStepH.go; conv => whnf) | (refine Both.lit_true ?_; conv => whnf) | (refine Both.lit_false ?_; conv => whnf) | (apply QStep.go; conv => whnf) | (refine Need.mk ?_ ?_; (focus (first | omega | exact ⟨by omega, by omega⟩ | rfl | exact ⟨rfl, rfl⟩ | exact ⟨rfl, by omega, by omega⟩ | exact ⟨by omega, by omega, by omega⟩ | exact ⟨rfl, Nat.le_of_ble_eq_true rfl⟩ | exact Nat.le_of_ble_eq_true rfl | (refine ⟨rfl, rfl, ?_⟩; simp [isFar, ofV0, CV.up, SV.renL, SV.ren] <;> fail) | (refine ⟨rfl, Nat.le_of_ble_eq_true rfl, ?_⟩; simp [isFar, ofV0, CV.up, SV.renL, SV.ren] <;> fail) | (simp only [List.length_append, List.length_drop, List.length_take, List.length_replicate, List.length_map]; omega) | (simp <;> fail))); conv => whnf) | (refine ⟨_, rfl, ?_⟩; conv => whnf)))
    try refine Both.dec (fun h2 => ?_) (fun h2 => ?_)
  all_goals
    (conv => whnf)
    (repeat (first | (exact Out.same; conv => whnf) | (exact Out1.same; conv => whnf) | (refine QAnd.mk ?_ ?_; conv => whnf) | (apply QStepH.go; conv => whnf) | (refine Both.lit_true ?_; conv => whnf) | (refine Both.lit_false ?_; conv => whnf) | (apply QStep.go; conv => whnf) | (refine Need.mk ?_ ?_; (focus (first | omega | exact ⟨by omega, by omega⟩ | rfl | exact ⟨rfl, rfl⟩ | exact ⟨rfl, by omega, by omega⟩ | exact ⟨by omega, by omega, by omega⟩ | exact ⟨rfl, Nat.le_of_ble_eq_true rfl⟩ | exact Nat.le_of_ble_eq_true rfl | (refine ⟨rfl, rfl, ?_⟩; simp [isFar, ofV0, CV.up, SV.renL, SV.ren] <;> fail) | (refine ⟨rfl, Nat.le_of_ble_eq_true rfl, ?_⟩; simp [isFar, ofV0, CV.up, SV.renL, SV.ren] <;> fail) | (simp only [List.length_append, List.length_drop, List.length_take, List.length_replicate, List.length_map]; omega) | (simp <;> fail))); conv => whnf) | (refine ⟨_, rfl, ?_⟩; conv => whnf)))
    try refine Both.dec (fun h3 => ?_) (fun h3 => ?_)
  all_goals
    (conv => whnf)
    (repeat (first | (exact Out.same; conv => whnf) | (exact Out1.same; conv => whnf) | (refine QAnd.mk ?_ ?_; conv => whnf) | (apply QStepH.go; conv => whnf) | (refine Both.lit_true ?_; conv => whnf) | (refine Both.lit_false ?_; conv => whnf) | (apply QStep.go; conv => whnf) | (refine Need.mk ?_ ?_; (focus (first | omega | exact ⟨by omega, by omega⟩ | rfl | exact ⟨rfl, rfl⟩ | exact ⟨rfl, by omega, by omega⟩ | exact ⟨by omega, by omega, by omega⟩ | exact ⟨rfl, Nat.le_of_ble_eq_true rfl⟩ | exact Nat.le_of_ble_eq_true rfl | (refine ⟨rfl, rfl, ?_⟩; simp [isFar, ofV0, CV.up, SV.renL, SV.ren] <;> fail) | (refine ⟨rfl, Nat.le_of_ble_eq_true rfl, ?_⟩; simp [isFar, ofV0, CV.up, SV.renL, SV.ren] <;> fail) | (simp only [List.length_append, List.length_drop, List.length_take, List.length_replicate, List.length_map]; omega) | (simp <;> fail))); conv => whnf) | (refine ⟨_, rfl, ?_⟩; conv => whnf)))
    refine ⟨_, _, WeakV.drop rfl, fin _ ?_⟩
    simp
    try omega
theorem rright_k : Contract Try.prog [] 15 rrightS := ⟨⟨⟨_, rfl, rfl, rfl⟩⟩, rright_c⟩
def rarmS : Spec := fun args H Q => match args with
  | [.ptr 0 0, .int .i64 n] => Need (-9223372036854775808 ≤ n ∧ n ≤ 9223372036854775807) (rIn H fun D => Q (.tuple []) (rB { D with ar := n.toNat }))
  | _ => False
theorem rarm_c : Meets Try.prog [] 33 rarmS := by
  refine meets_of Γok Try.func33 rfl ?_
  intro args H Q h
  unfold rarmS at h
  split at h
  case h_2 => exact h.elim
  rename_i n
  obtain ⟨hn, h⟩ := h
  obtain ⟨D, rfl, ho, h⟩ := rIn_out h
  (refine sx_sound Γok _ ?_; conv => whnf)
  (repeat (first | (exact Out.same; conv => whnf) | (exact Out1.same; conv => whnf) | (refine QAnd.mk ?_ ?_; conv => whnf) | (apply QStepH.go; conv => whnf) | (refine Both.lit_true ?_; conv => whnf) | (refine Both.lit_false ?_; conv => whnf) | (apply QStep.go; conv => whnf) | (refine Need.mk ?_ ?_; (focus (first | omega | exact ⟨by omega, by omega⟩ | rfl | exact ⟨rfl, rfl⟩ | exact ⟨rfl, by omega, by omega⟩ | exact ⟨by omega, by omega, by omega⟩ | exact ⟨rfl, Nat.le_of_ble_eq_true rfl⟩ | exact Nat.le_of_ble_eq_true rfl | (refine ⟨rfl, rfl, ?_⟩; simp [isFar, ofV0, CV.up, SV.renL, SV.ren] <;> fail) | (refine ⟨rfl, Nat.le_of_ble_eq_true rfl, ?_⟩; simp [isFar, ofV0, CV.up, SV.renL, SV.ren] <;> fail) | (simp only [List.length_append, List.length_drop, List.length_take, List.length_replicate, List.length_map]; omega) | (simp <;> fail))); conv => whnf) | (refine ⟨_, rfl, ?_⟩; conv => whnf)))
  refine Both.dec (fun h1 => ?_) (fun h1 => ?_)
  · have h3 : (0 : Int) = ((n.toNat : Nat) : Int) := by omega
    (conv => whnf)
    (repeat (first | (exact Out.same; conv => whnf) | (exact Out1.same; conv => whnf) | (refine QAnd.mk ?_ ?_; conv => whnf) | (apply QStepH.go; conv => whnf) | (refine Both.lit_true ?_; conv => whnf) | (refine Both.lit_false ?_; conv => whnf) | (apply QStep.go; conv => whnf) | (refine Need.mk ?_ ?_; (focus (first | omega | exact ⟨by omega, by omega⟩ | rfl | exact ⟨rfl, rfl⟩ | exact ⟨rfl, by omega, by omega⟩ | exact ⟨by omega, by omega, by omega⟩ | exact ⟨rfl, Nat.le_of_ble_eq_true rfl⟩ | exact Nat.le_of_ble_eq_true rfl | (refine ⟨rfl, rfl, ?_⟩; simp [isFar, ofV0, CV.up, SV.renL, SV.ren] <;> fail) | (refine ⟨rfl, Nat.le_of_ble_eq_true rfl, ?_⟩; simp [isFar, ofV0, CV.up, SV.renL, SV.ren] <;> fail) | (simp only [List.length_append, List.length_drop, List.length_take, List.length_replicate, List.length_map]; omega) | (simp <;> fail))); conv => whnf) | (refine ⟨_, rfl, ?_⟩; conv => whnf)))
    refine ⟨_, _, WeakV.auto ?_, h⟩
    (repeat' ((conv => whnf); first | exact True.intro | (refine And.intro ?_ ?_)))
    all_goals first | rfl | exact .eq (congrArg (fun x => [SV.int .i64 (D.sz : Int), .int .i64 (D.sc : Int), .str D.st.flatten, .own 1, .int .i64 x]) h3) | exact .eq rfl
  · have h3 : n = ((n.toNat : Nat) : Int) := by omega
    (conv => whnf)
    (repeat (first | (exact Out.same; conv => whnf) | (exact Out1.same; conv => whnf) | (refine QAnd.mk ?_ ?_; conv => whnf) | (apply QStepH.go; conv => whnf) | (refine Both.lit_true ?_; conv => whnf) | (refine Both.lit_false ?_; conv => whnf) | (apply QStep.go; conv => whnf) | (refine Need.mk ?_ ?_; (focus (first | omega | exact ⟨by omega, by omega⟩ | rfl | exact ⟨rfl, rfl⟩ | exact ⟨rfl, by omega, by omega⟩ | exact ⟨by omega, by omega, by omega⟩ | exact ⟨rfl, Nat.le_of_ble_eq_true rfl⟩ | exact Nat.le_of_ble_eq_true rfl | (refine ⟨rfl, rfl, ?_⟩; simp [isFar, ofV0, CV.up, SV.renL, SV.ren] <;> fail) | (refine ⟨rfl, Nat.le_of_ble_eq_true rfl, ?_⟩; simp [isFar, ofV0, CV.up, SV.renL, SV.ren] <;> fail) | (simp only [List.length_append, List.length_drop, List.length_take, List.length_replicate, List.length_map]; omega) | (simp <;> fail))); conv => whnf) | (refine ⟨_, rfl, ?_⟩; conv => whnf)))
    refine ⟨_, _, WeakV.auto ?_, h⟩
    (repeat' ((conv => whnf); first | exact True.intro | (refine And.intro ?_ ?_)))
    all_goals first | rfl | exact .eq (congrArg (fun x => [SV.int .i64 (D.sz : Int), .int .i64 (D.sc : Int), .str D.st.flatten, .own 1, .int .i64 x]) h3) | exact .eq rfl
theorem rarm_k : Contract Try.prog [] 33 rarmS := ⟨⟨⟨_, rfl, rfl, rfl⟩⟩, rarm_c⟩
def rfailS : Spec := fun args H Q => match args with
  | [.ptr 0 0] => rIn H fun D => ∀ b : Bool, b = decide (D.ar = 1) → Q (.bool b) (rB { D with ar := D.ar - 1 })
  | _ => False
theorem rfail_c : Meets Try.prog [] 41 rfailS := by
  refine meets_of Γok Try.func41 rfl ?_
  intro args H Q h
  unfold rfailS at h
  split at h
  case h_2 => exact h.elim
  obtain ⟨D, rfl, ho, h⟩ := rIn_out h
  have h1 := ho.ar
  have he : decide ((D.ar : Int) = 1) = decide (D.ar = 1) := decide_eq_decide.2 (by omega)
  (refine sx_sound Γok _ ?_; conv => whnf)
  (repeat (first | (exact Out.same; conv => whnf) | (exact Out1.same; conv => whnf) | (refine QAnd.mk ?_ ?_; conv => whnf) | (apply QStepH.go; conv => whnf) | (refine Both.lit_true ?_; conv => whnf) | (refine Both.lit_false ?_; conv => whnf) | (apply QStep.go; conv => whnf) | (refine Need.mk ?_ ?_; (focus (first | omega | exact ⟨by omega, by omega⟩ | rfl | exact ⟨rfl, rfl⟩ | exact ⟨rfl, by omega, by omega⟩ | exact ⟨by omega, by omega, by omega⟩ | exact ⟨rfl, Nat.le_of_ble_eq_true rfl⟩ | exact Nat.le_of_ble_eq_true rfl | (refine ⟨rfl, rfl, ?_⟩; simp [isFar, ofV0, CV.up, SV.renL, SV.ren] <;> fail) | (refine ⟨rfl, Nat.le_of_ble_eq_true rfl, ?_⟩; simp [isFar, ofV0, CV.up, SV.renL, SV.ren] <;> fail) | (simp only [List.length_append, List.length_drop, List.length_take, List.length_replicate, List.length_map]; omega) | (simp <;> fail))); conv => whnf) | (refine ⟨_, rfl, ?_⟩; conv => whnf)))
  refine Both.dec (fun h2 => ?_) (fun h2 => ?_)
  · have h3 : IntKind.i64.wrap ((D.ar : Int) - 1) = ((D.ar - 1 : Nat) : Int) := by rw [wrap_i64 (by omega) (by omega)]; omega
    (conv => whnf)
    (repeat (first | (exact Out.same; conv => whnf) | (exact Out1.same; conv => whnf) | (refine QAnd.mk ?_ ?_; conv => whnf) | (apply QStepH.go; conv => whnf) | (refine Both.lit_true ?_; conv => whnf) | (refine Both.lit_false ?_; conv => whnf) | (apply QStep.go; conv => whnf) | (refine Need.mk ?_ ?_; (focus (first | omega | exact ⟨by omega, by omega⟩ | rfl | exact ⟨rfl, rfl⟩ | exact ⟨rfl, by omega, by omega⟩ | exact ⟨by omega, by omega, by omega⟩ | exact ⟨rfl, Nat.le_of_ble_eq_true rfl⟩ | exact Nat.le_of_ble_eq_true rfl | (refine ⟨rfl, rfl, ?_⟩; simp [isFar, ofV0, CV.up, SV.renL, SV.ren] <;> fail) | (refine ⟨rfl, Nat.le_of_ble_eq_true rfl, ?_⟩; simp [isFar, ofV0, CV.up, SV.renL, SV.ren] <;> fail) | (simp only [List.length_append, List.length_drop, List.length_take, List.length_replicate, List.length_map]; omega) | (simp <;> fail))); conv => whnf) | (refine ⟨_, rfl, ?_⟩; conv => whnf)))
    refine ⟨_, _, WeakV.auto ?_, h _ he⟩
    (repeat' ((conv => whnf); first | exact True.intro | (refine And.intro ?_ ?_)))
    all_goals first | rfl | exact .eq (congrArg (fun x => [SV.int .i64 (D.sz : Int), .int .i64 (D.sc : Int), .str D.st.flatten, .own 1, .int .i64 x]) h3) | exact .eq rfl
  · have h3 : (D.ar : Int) = ((D.ar - 1 : Nat) : Int) := by omega
    (conv => whnf)
    (repeat (first | (exact Out.same; conv => whnf) | (exact Out1.same; conv => whnf) | (refine QAnd.mk ?_ ?_; conv => whnf) | (apply QStepH.go; conv => whnf) | (refine Both.lit_true ?_; conv => whnf) | (refine Both.lit_false ?_; conv => whnf) | (apply QStep.go; conv => whnf) | (refine Need.mk ?_ ?_; (focus (first | omega | exact ⟨by omega, by omega⟩ | rfl | exact ⟨rfl, rfl⟩ | exact ⟨rfl, by omega, by omega⟩ | exact ⟨by omega, by omega, by omega⟩ | exact ⟨rfl, Nat.le_of_ble_eq_true rfl⟩ | exact Nat.le_of_ble_eq_true rfl | (refine ⟨rfl, rfl, ?_⟩; simp [isFar, ofV0, CV.up, SV.renL, SV.ren] <;> fail) | (refine ⟨rfl, Nat.le_of_ble_eq_true rfl, ?_⟩; simp [isFar, ofV0, CV.up, SV.renL, SV.ren] <;> fail) | (simp only [List.length_append, List.length_drop, List.length_take, List.length_replicate, List.length_map]; omega) | (simp <;> fail))); conv => whnf) | (refine ⟨_, rfl, ?_⟩; conv => whnf)))
    refine ⟨_, _, WeakV.auto ?_, h _ he⟩
    (repeat' ((conv => whnf); first | exact True.intro | (refine And.intro ?_ ?_)))
    all_goals first | rfl | exact .eq (congrArg (fun x => [SV.int .i64 (D.sz : Int), .int .i64 (D.sc : Int), .str D.st.flatten, .own 1, .int .i64 x]) h3) | exact .eq rfl
theorem rfail_k : Contract Try.prog [] 41 rfailS := ⟨⟨⟨_, rfl, rfl, rfl⟩⟩, rfail_c⟩
def rputS : Spec := fun args H Q => match args with
  | [.ptr 0 0, .int .i64 n, .str s] => rIn H fun D => Need (0 ≤ n ∧ n < D.sc ∧ s.length ≤ D.sz) (Q (.tuple []) (rB { D with st := D.st.set n.toNat (s ++ (D.st.getD n.toNat []).drop s.length) }))
  | _ => False
theorem rput_c : Meets Try.prog [] 42 rputS := by
  refine meets_of Γok Try.func42 rfl ?_
  intro args H Q h
  unfold rputS at h
  split at h
  case h_2 => exact h.elim
  rename_i n s
  obtain ⟨D, rfl, ho, ⟨h1, h2, h3⟩, h⟩ := rIn_out h
  obtain ⟨n, rfl⟩ := Int.eq_ofNat_of_zero_le h1
  have hsz := ho.sz
  have hsc := ho.sc
  have hfl := ho.flat
  have hle := ho.le
  have hn : n < D.sc := by omega
  have hm1 : (n + 1) * D.sz ≤ D.sc * D.sz := Nat.mul_le_mul_right _ hn
  have hm2 : (n + 1) * D.sz = n * D.sz + D.sz := by rw [Nat.add_mul]; omega
  have hput := flat_put ho.each (n := n) (by rw [ho.len]; exact hn) h3
  have hw : IntKind.i64.wrap ((n : Int) * (D.sz : Int)) = ((n * D.sz : Nat) : Int) := by
    rw [← Int.natCast_mul, wrap_i64 (by omega) (by omega)]
  have hw2 : IntKind.i64.wrap (((n * D.sz : Nat) : Int) + ((s.length : Nat) : Int)) = ((n * D.sz + s.length : Nat) : Int) := by
    rw [← Int.natCast_add, wrap_i64 (by omega) (by omega)]
  generalize hq : n * D.sz = q at *
  have hput2 : List.drop (Int.toNat 0) (List.take ((q : Nat) : Int).toNat D.st.flatten) ++ s ++ List.drop ((q + s.length : Nat) : Int).toNat (List.take ((D.st.flatten.length : Nat) : Int).toNat D.st.flatten) = (D.st.set n (s ++ List.drop s.length (D.st.getD n []))).flatten := by
    show List.take q D.st.flatten ++ s ++ List.drop (q + s.length) (List.take D.st.flatten.length D.st.flatten) = _
    rw [List.take_length, hput]
  (refine sx_sound Γok _ ?_; conv => whnf)
  (repeat (first | (exact Out.same; conv => whnf) | (exact Out1.same; conv => whnf) | (refine QAnd.mk ?_ ?_; conv => whnf) | (apply QStepH.go; conv => whnf) | (refine Both.lit_true ?_; conv => whnf) | (refine Both.lit_false ?_; conv => whnf) | (apply QStep.go; conv => whnf) | (refine Need.mk ?_ ?_; (focus (first | omega | exact ⟨by omega, by omega⟩ | rfl | exact ⟨rfl, rfl⟩ | exact ⟨rfl, by omega, by omega⟩ | exact ⟨by omega, by omega, by omega⟩ | exact ⟨rfl, Nat.le_of_ble_eq_true rfl⟩ | exact Nat.le_of_ble_eq_true rfl | (refine ⟨rfl, rfl, ?_⟩; simp [isFar, ofV0, CV.up, SV.renL, SV.ren] <;> fail) | (refine ⟨rfl, Nat.le_of_ble_eq_true rfl, ?_⟩; simp [isFar, ofV0, CV.up, SV.renL, SV.ren] <;> fail) | (simp only [List.length_append, List.length_drop, List.length_take, List.length_replicate, List.length_map]; omega) | (simp <;> fail))); conv => whnf) | (refine ⟨_, rfl, ?_⟩; conv => whnf)))
  rw [hw]
  (refine DrawVC.any Γok (by kernel_rfl) (by kernel_rfl) (by kernel_rfl) (by rfl) ?_; conv => whnf)
  (repeat (first | (exact ⟨congrArg (SV.int .i64) hw2⟩; conv => whnf) | (exact Out.same; conv => whnf) | (exact Out1.same; conv => whnf) | (refine QAnd.mk ?_ ?_; conv => whnf) | (apply QStepH.go; conv => whnf) | (refine Both.lit_true ?_; conv => whnf) | (refine Both.lit_false ?_; conv => whnf) | (apply QStep.go; conv => whnf) | (refine Need.mk ?_ ?_; (focus (first | omega | exact ⟨by omega, by omega⟩ | rfl | exact ⟨rfl, rfl⟩ | exact ⟨rfl, by omega, by omega⟩ | exact ⟨by omega, by omega, by omega⟩ | exact ⟨rfl, Nat.le_of_ble_eq_true rfl⟩ | exact Nat.le_of_ble_eq_true rfl | (refine ⟨rfl, rfl, ?_⟩; simp [isFar, ofV0, CV.up, SV.renL, SV.ren] <;> fail) | (refine ⟨rfl, Nat.le_of_ble_eq_true rfl, ?_⟩; simp [isFar, ofV0, CV.up, SV.renL, SV.ren] <;> fail) | (simp only [List.length_append, List.length_drop, List.length_take, List.length_replicate, List.length_map]; omega) | (simp <;> fail))); conv => whnf) | (refine ⟨_, rfl, ?_⟩; conv => whnf)))
  refine ⟨_, _, WeakV.auto ?_, h⟩
  (repeat' ((conv => whnf); first | exact True.intro | (refine And.intro ?_ ?_)))
  all_goals first | rfl | exact .eq (congrArg (fun x => [SV.int .i64 (D.sz : Int), .int .i64 (D.sc : Int), .str x, .own 1, .int .i64 (D.ar : Int)]) hput2) | exact .eq rfl
theorem rput_k : Contract Try.prog [] 42 rputS := ⟨⟨⟨_, rfl, rfl, rfl⟩⟩, rput_c⟩
end Go.LX
