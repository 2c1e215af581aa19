import Derived.Test.YtcmnomppneiiiaaPb
set_option maxRecDepth 100000
set_option maxHeartbeats 4000000
set_option autoImplicit false
set_option linter.unusedVariables false
set_option linter.unusedSimpArgs false
namespace Go.LX
open Go.Proofs

/-! ## Lists of notes, of items -/
structure Row where
  k : Int
  p : Pkt
def Row.enN (r : Row) : List CV := [.int .i64 r.k, .int .i64 r.p.f, .int .u64 (u64 r.p.s), .int .u64 (u64 r.p.t), .str r.p.d]
def Row.enI (r : Row) : List CV := [.int .i64 r.p.f, .int .u64 (u64 r.p.s), .int .u64 (u64 r.p.t), .str r.p.d, .int .i64 r.k]
def Row.kok (mx : Int) (r : Row) : Bool := decide (1 ≤ r.k ∧ r.k ≤ mx)
def Row.pk (r : Row) : Bool := pok r.p.f (u64 r.p.s) (u64 r.p.t) r.p.d
def Row.good (mx : Int) (r : Row) : Bool := r.kok mx && r.pk
def Row.bytes (r : Row) : List UInt8 := UInt8.ofNat r.k.toNat :: pbytes r.p.f (u64 r.p.s) (u64 r.p.t) r.p.d
def outR (l : List Row) : List UInt8 := UInt8.ofNat l.length :: l.flatMap Row.bytes
def goodR (mx : Int) (l : List Row) : Bool := decide (l.length ≤ 255) && l.all (Row.good mx)
theorem rows_row {en : Row → List CV} (hen : ∀ r, (en r).length = 5) (l : List Row) (i : Nat) (h : i < l.length) : ((l.flatMap en).drop (i * 5)).take 5 = en l[i] := by
  induction l generalizing i with
  | nil => simp at h
  | cons c l ih =>
    cases i with
    | zero => simp [List.take_left' (hen c)]
    | succ i =>
      rw [List.flatMap_cons, List.getElem_cons_succ, ← ih i (by simpa using h)]
      rw [show (i + 1) * 5 = (en c).length + i * 5 by rw [hen c]; omega, ← List.drop_drop, List.drop_left' rfl]
theorem u64_rng (r : BitVec 64) : 0 ≤ u64 r ∧ u64 r < 18446744073709551616 := by
  have := r.isLt
  unfold u64
  omega
def kindV (n g : Int) : Int := if 1 ≤ n ∧ n ≤ g then n else -1
theorem kindV_or (n g : Int) : (1 ≤ n ∧ n ≤ g ∧ kindV n g = n) ∨ (¬ (1 ≤ n ∧ n ≤ g) ∧ kindV n g = -1) := by
  unfold kindV
  split <;> omega
def kindS : Spec := fun args H Q => match args, H with
  | [.int .i64 n, .int .i64 g], [] => Q (.int .i64 (kindV n g)) []
  | _, _ => False
theorem kind_c : Meets Try.prog [] 34 kindS := by
  refine meets_of Γok Try.func34 rfl ?_
  intro args H Q h
  unfold kindS at h
  split at h
  case h_2 => exact h.elim
  rename_i n g
  (refine sx_sound Γok _ ?_; conv => whnf)
  (repeat (first | (exact Out.same; conv => whnf) | (exact Out1.same; conv => whnf) | (refine QAnd.mk ?_ ?_; conv => whnf) | (apply QStepH.go; conv => whnf) | (refine Both.lit_true ?_; conv => whnf) | (refine Both.lit_false ?_; conv => whnf) | (apply QStep.go; conv => whnf) | (refine Need.mk ?_ ?_; (focus (first | omega | exact ⟨by omega, by omega⟩ | rfl | exact ⟨rfl, rfl⟩ | exact ⟨rfl, by omega, by omega⟩ | exact ⟨by omega, by omega, by omega⟩ | exact ⟨rfl, Nat.le_of_ble_eq_true rfl⟩ | exact Nat.le_of_ble_eq_true rfl | (refine ⟨rfl, rfl, ?_⟩; simp [isFar, ofV0, CV.up, SV.renL, SV.ren] <;> fail) | (refine ⟨rfl, Nat.le_of_ble_eq_true rfl, ?_⟩; simp [isFar, ofV0, CV.up, SV.renL, SV.ren] <;> fail) | (simp <;> fail))); conv => whnf) | (refine ⟨_, rfl, ?_⟩; conv => whnf)))
  refine Both.dec (fun h1 => ?_) (fun h1 => ?_)
  · (conv => whnf)
    (repeat (first | (exact Out.same; conv => whnf) | (exact Out1.same; conv => whnf) | (refine QAnd.mk ?_ ?_; conv => whnf) | (apply QStepH.go; conv => whnf) | (refine Both.lit_true ?_; conv => whnf) | (refine Both.lit_false ?_; conv => whnf) | (apply QStep.go; conv => whnf) | (refine Need.mk ?_ ?_; (focus (first | omega | exact ⟨by omega, by omega⟩ | rfl | exact ⟨rfl, rfl⟩ | exact ⟨rfl, by omega, by omega⟩ | exact ⟨by omega, by omega, by omega⟩ | exact ⟨rfl, Nat.le_of_ble_eq_true rfl⟩ | exact Nat.le_of_ble_eq_true rfl | (refine ⟨rfl, rfl, ?_⟩; simp [isFar, ofV0, CV.up, SV.renL, SV.ren] <;> fail) | (refine ⟨rfl, Nat.le_of_ble_eq_true rfl, ?_⟩; simp [isFar, ofV0, CV.up, SV.renL, SV.ren] <;> fail) | (simp <;> fail))); conv => whnf) | (refine ⟨_, rfl, ?_⟩; conv => whnf)))
    rw [kindV, if_neg (by omega)] at h
    exact ⟨_, _, WeakV.drop rfl, h⟩
  (conv => whnf)
  (repeat (first | (exact Out.same; conv => whnf) | (exact Out1.same; conv => whnf) | (refine QAnd.mk ?_ ?_; conv => whnf) | (apply QStepH.go; conv => whnf) | (refine Both.lit_true ?_; conv => whnf) | (refine Both.lit_false ?_; conv => whnf) | (apply QStep.go; conv => whnf) | (refine Need.mk ?_ ?_; (focus (first | omega | exact ⟨by omega, by omega⟩ | rfl | exact ⟨rfl, rfl⟩ | exact ⟨rfl, by omega, by omega⟩ | exact ⟨by omega, by omega, by omega⟩ | exact ⟨rfl, Nat.le_of_ble_eq_true rfl⟩ | exact Nat.le_of_ble_eq_true rfl | (refine ⟨rfl, rfl, ?_⟩; simp [isFar, ofV0, CV.up, SV.renL, SV.ren] <;> fail) | (refine ⟨rfl, Nat.le_of_ble_eq_true rfl, ?_⟩; simp [isFar, ofV0, CV.up, SV.renL, SV.ren] <;> fail) | (simp <;> fail))); conv => whnf) | (refine ⟨_, rfl, ?_⟩; conv => whnf)))
  refine Both.dec (fun h2 => ?_) (fun h2 => ?_)
  · (conv => whnf)
    (repeat (first | (exact Out.same; conv => whnf) | (exact Out1.same; conv => whnf) | (refine QAnd.mk ?_ ?_; conv => whnf) | (apply QStepH.go; conv => whnf) | (refine Both.lit_true ?_; conv => whnf) | (refine Both.lit_false ?_; conv => whnf) | (apply QStep.go; conv => whnf) | (refine Need.mk ?_ ?_; (focus (first | omega | exact ⟨by omega, by omega⟩ | rfl | exact ⟨rfl, rfl⟩ | exact ⟨rfl, by omega, by omega⟩ | exact ⟨by omega, by omega, by omega⟩ | exact ⟨rfl, Nat.le_of_ble_eq_true rfl⟩ | exact Nat.le_of_ble_eq_true rfl | (refine ⟨rfl, rfl, ?_⟩; simp [isFar, ofV0, CV.up, SV.renL, SV.ren] <;> fail) | (refine ⟨rfl, Nat.le_of_ble_eq_true rfl, ?_⟩; simp [isFar, ofV0, CV.up, SV.renL, SV.ren] <;> fail) | (simp <;> fail))); conv => whnf) | (refine ⟨_, rfl, ?_⟩; conv => whnf)))
    rw [kindV, if_neg (by omega)] at h
    exact ⟨_, _, WeakV.drop rfl, h⟩
  (conv => whnf)
  (repeat (first | (exact Out.same; conv => whnf) | (exact Out1.same; conv => whnf) | (refine QAnd.mk ?_ ?_; conv => whnf) | (apply QStepH.go; conv => whnf) | (refine Both.lit_true ?_; conv => whnf) | (refine Both.lit_false ?_; conv => whnf) | (apply QStep.go; conv => whnf) | (refine Need.mk ?_ ?_; (focus (first | omega | exact ⟨by omega, by omega⟩ | rfl | exact ⟨rfl, rfl⟩ | exact ⟨rfl, by omega, by omega⟩ | exact ⟨by omega, by omega, by omega⟩ | exact ⟨rfl, Nat.le_of_ble_eq_true rfl⟩ | exact Nat.le_of_ble_eq_true rfl | (refine ⟨rfl, rfl, ?_⟩; simp [isFar, ofV0, CV.up, SV.renL, SV.ren] <;> fail) | (refine ⟨rfl, Nat.le_of_ble_eq_true rfl, ?_⟩; simp [isFar, ofV0, CV.up, SV.renL, SV.ren] <;> fail) | (simp <;> fail))); conv => whnf) | (refine ⟨_, rfl, ?_⟩; conv => whnf)))
  rw [kindV, if_pos ⟨by omega, by omega⟩] at h
  exact ⟨_, _, WeakV.drop rfl, h⟩
theorem kind_k : Contract Try.prog [] 34 kindS := ⟨⟨⟨_, rfl, rfl, rfl⟩⟩, kind_c⟩

def put1NoteS : Spec := fun args H Q => match args, H with
  | [.agg [.int .i64 k, .int .i64 f, .int .u64 s, .int .u64 t, .str d]], [] => ∀ x : Int, ((1 ≤ k ∧ k ≤ 4 ∧ x = k) ∨ (¬ (1 ≤ k ∧ k ≤ 4) ∧ x = -1)) → Q (.tuple [.int .i64 x, .agg [.int .i64 f, .int .u64 s, .int .u64 t, .str d]]) []
  | _, _ => False
theorem put1Note_c : Meets Try.prog [] 33 put1NoteS := by
  refine meets_of Γok Try.func33 rfl ?_
  intro args H Q h
  unfold put1NoteS at h
  split at h
  case h_2 => exact h.elim
  (refine sx_sound Γok _ ?_; conv => whnf)
  (repeat (first | (exact Out.same; conv => whnf) | (exact Out1.same; conv => whnf) | (refine QAnd.mk ?_ ?_; conv => whnf) | (apply QStepH.go; conv => whnf) | (refine Both.lit_true ?_; conv => whnf) | (refine Both.lit_false ?_; conv => whnf) | (apply QStep.go; conv => whnf) | (refine Need.mk ?_ ?_; (focus (first | omega | exact ⟨by omega, by omega⟩ | rfl | exact ⟨rfl, rfl⟩ | exact ⟨rfl, by omega, by omega⟩ | exact ⟨by omega, by omega, by omega⟩ | exact ⟨rfl, Nat.le_of_ble_eq_true rfl⟩ | exact Nat.le_of_ble_eq_true rfl | (refine ⟨rfl, rfl, ?_⟩; simp [isFar, ofV0, CV.up, SV.renL, SV.ren] <;> fail) | (refine ⟨rfl, Nat.le_of_ble_eq_true rfl, ?_⟩; simp [isFar, ofV0, CV.up, SV.renL, SV.ren] <;> fail) | (simp <;> fail))); conv => whnf) | (refine ⟨_, rfl, ?_⟩; conv => whnf)))
  (refine DrawVC.any Γok (by kernel_rfl) (by kernel_rfl) (by kernel_rfl) (by rfl) ?_; conv => whnf)
  (repeat (first | (exact Out.same; conv => whnf) | (exact Out1.same; conv => whnf) | (refine QAnd.mk ?_ ?_; conv => whnf) | (apply QStepH.go; conv => whnf) | (refine Both.lit_true ?_; conv => whnf) | (refine Both.lit_false ?_; conv => whnf) | (apply QStep.go; conv => whnf) | (refine Need.mk ?_ ?_; (focus (first | omega | exact ⟨by omega, by omega⟩ | rfl | exact ⟨rfl, rfl⟩ | exact ⟨rfl, by omega, by omega⟩ | exact ⟨by omega, by omega, by omega⟩ | exact ⟨rfl, Nat.le_of_ble_eq_true rfl⟩ | exact Nat.le_of_ble_eq_true rfl | (refine ⟨rfl, rfl, ?_⟩; simp [isFar, ofV0, CV.up, SV.renL, SV.ren] <;> fail) | (refine ⟨rfl, Nat.le_of_ble_eq_true rfl, ?_⟩; simp [isFar, ofV0, CV.up, SV.renL, SV.ren] <;> fail) | (simp <;> fail))); conv => whnf) | (refine ⟨_, rfl, ?_⟩; conv => whnf) | (refine CallVC.auto kind_k ?_; conv => whnf)))
  exact ⟨_, _, WeakV.drop rfl, h _ (kindV_or _ _)⟩
theorem put1Note_k : Contract Try.prog [] 33 put1NoteS := ⟨⟨⟨_, rfl, rfl, rfl⟩⟩, put1Note_c⟩
def putNoteS : Spec := fun args H Q => match args, H with
  | [.ptr 0 0, .func (.func 33) [], .sl 5 n cs b], [.cells [.int .i64 e, .opt 0 1, .own 1] 65, .own 5 1 m xs true] => ∃ (l0 : List UInt8) (l : List Row), xs = bys l0 ∧ m = l0.length ∧ l0.length < 1000000 ∧ n = l.length ∧ cs = l.flatMap Row.enN ∧ l.length ≤ 300 ∧
    ∀ e' l', e' = (if goodR 4 l then e else errOf e) → (goodR 4 l = true → l' = l0 ++ outR l) → l'.length ≤ l0.length + 30000 → Q (.tuple []) (wrN e' l')
  | _, _ => False
def InvPNote (l0 : List UInt8) (l : List Row) (e : Int) (k : Nat) (e' : Int) (l' : List UInt8) : Prop :=
  k ≤ l.length ∧ e' = (if decide (l.length ≤ 255) && (l.take k).all (Row.good 4) then e else errOf e) ∧
    ((decide (l.length ≤ 255) && (l.take k).all (Row.good 4)) = true → l' = l0 ++ UInt8.ofNat l.length :: (l.take k).flatMap Row.bytes) ∧ l'.length ≤ l0.length + 1 + 84 * k
theorem putNote_c : Meets Try.prog [] 32 putNoteS := by
  refine meets_of Γok Try.func32 rfl ?_
  intro args H Q h
  unfold putNoteS at h
  split at h
  case h_2 => exact h.elim
  rename_i n cs b e m xs
  obtain ⟨l0, l, rfl, rfl, hl0, rfl, rfl, hlen, h⟩ := h
  have start : ∀ e1 l1, InvPNote l0 l e 0 e1 l1 → ∀ (s : LS) (c : Code) (K : Exit → LS → Prop), True := fun _ _ _ _ _ _ => trivial
  have fin : ∀ e1 l1, InvPNote l0 l e l.length e1 l1 → Q (.tuple []) (wrN e1 l1) := by
    intro e1 l1 ⟨_, h2, h3, h4⟩
    rw [List.take_length] at h2 h3
    exact h e1 l1 h2 h3 (by omega)
  have step : ∀ k e1 l1 e2 l2, InvPNote l0 l e k e1 l1 → (hk : k < l.length) → e2 = (if l[k].good 4 then e1 else errOf e1) → (l[k].good 4 = true → l2 = l1 ++ l[k].bytes) → l2.length ≤ l1.length + 84 → InvPNote l0 l e (k + 1) e2 l2 := by
    intro k e1 l1 e2 l2 ⟨h1, h2, h3, h4⟩ hk h5 h6 h7
    refine ⟨hk, ?_, ?_, by omega⟩
    · rw [List.take_succ_eq_append_getElem hk, List.all_append, h5, h2]
      simp only [List.all_cons, List.all_nil, Bool.and_true]
      cases l[k].good 4
      · simp only [Bool.and_false, Bool.false_eq_true, if_false]
        split
        · rfl
        · unfold errOf; by_cases he : e = 0 <;> simp [he]
      · simp
    · intro hg
      rw [List.take_succ_eq_append_getElem hk, List.all_append] at hg
      simp only [List.all_cons, List.all_nil, Bool.and_true, Bool.and_eq_true] at hg
      rw [h6 hg.2.2, h3 (by simp only [Bool.and_eq_true]; exact ⟨hg.1, hg.2.1⟩), List.take_succ_eq_append_getElem hk, List.flatMap_append]
      simp
  have loop : ∀ (c : Code), True := fun _ => trivial
  (refine sx_sound Γok _ ?_; conv => whnf)
  by_cases h255 : l.length ≤ 255
  · have i0 : InvPNote l0 l e 0 e (l0 ++ [UInt8.ofNat l.length]) := ⟨Nat.zero_le _, by simp [h255], fun _ => by simp, by simp⟩
    (repeat (first | (exact Out.same; conv => whnf) | (exact Out1.same; conv => whnf) | (refine QAnd.mk ?_ ?_; conv => whnf) | (apply QStepH.go; conv => whnf) | (refine Both.lit_true ?_; conv => whnf) | (refine Both.lit_false ?_; conv => whnf) | (apply QStep.go; conv => whnf) | (refine Need.mk ?_ ?_; (focus (first | omega | exact ⟨by omega, by omega⟩ | rfl | exact ⟨rfl, rfl⟩ | exact ⟨rfl, by omega, by omega⟩ | exact ⟨by omega, by omega, by omega⟩ | exact ⟨rfl, Nat.le_of_ble_eq_true rfl⟩ | exact Nat.le_of_ble_eq_true rfl | (refine ⟨rfl, rfl, ?_⟩; simp [isFar, ofV0, CV.up, SV.renL, SV.ren] <;> fail) | (refine ⟨rfl, Nat.le_of_ble_eq_true rfl, ?_⟩; simp [isFar, ofV0, CV.up, SV.renL, SV.ren] <;> fail) | (simp <;> fail))); conv => whnf) | (refine ⟨_, rfl, ?_⟩; conv => whnf)))
    refine CallVC.auto byteOk_k (Need.mk (by omega) ⟨_, rfl, rfl, by omega, ?_⟩)
    (conv => whnf)
    refine loop_rule (fun x : Nat × Int × List UInt8 => match x with
      | (k, e1, l1) => ⟨[.ptr 0 0, .func (.func 33) [], .any, .any, .any, .any, .any, .any, .any, .any, .any, .any, .any, .any, .sl 5 l.length (l.flatMap Row.enN) b, .int .i64 (l.length : Int), .int .i64 (k : Int), .any, .any, .any, .any, .any, .any, .any, .any, .any, .any, .any, .any, .any, .any, .any, .any], wrN e1 l1⟩) (fun x => InvPNote l0 l e x.1 x.2.1 x.2.2) (fun x => l.length - x.1) (0, e, l0 ++ [UInt8.ofNat l.length]) i0 (Weak.auto ?_) ?_
    · (repeat' ((conv => whnf); first | exact True.intro | (refine And.intro ?_ ?_)))
      all_goals first | rfl | exact .eq rfl | done
    · rintro ⟨k, e1, l1⟩ hI
      have hI : InvPNote l0 l e k e1 l1 := hI
      have hk := hI.1
      have hbd := hI.2.2.2
      (refine sx_sound Γok _ ?_; conv => whnf)
      refine Both.dec (fun hlt => ?_) (fun hge => ?_)
      · have hkl : k < l.length := by have : (k : Int) < l.length := hlt; omega
        (conv => whnf)
        have hr := rows_row (en := Row.enN) (fun _ => rfl) l k hkl
        have hst := fun e2 l2 => step k e1 l1 e2 l2 hI hkl
        generalize hcc : l[k] = c at hr hst
        (repeat (first | (refine ⟨_, hr, ?_⟩; conv => whnf) | (exact Out.same; conv => whnf) | (exact Out1.same; conv => whnf) | (refine QAnd.mk ?_ ?_; conv => whnf) | (apply QStepH.go; conv => whnf) | (refine Both.lit_true ?_; conv => whnf) | (refine Both.lit_false ?_; conv => whnf) | (apply QStep.go; conv => whnf) | (refine Need.mk ?_ ?_; (focus (first | omega | exact ⟨by omega, by omega⟩ | rfl | exact ⟨rfl, rfl⟩ | exact ⟨rfl, by omega, by omega⟩ | exact ⟨by omega, by omega, by omega⟩ | exact ⟨rfl, Nat.le_of_ble_eq_true rfl⟩ | exact Nat.le_of_ble_eq_true rfl | (refine ⟨rfl, rfl, ?_⟩; simp [isFar, ofV0, CV.up, SV.renL, SV.ren] <;> fail) | (refine ⟨rfl, Nat.le_of_ble_eq_true rfl, ?_⟩; simp [isFar, ofV0, CV.up, SV.renL, SV.ren] <;> fail) | (simp <;> fail))); conv => whnf) | (refine ⟨_, rfl, ?_⟩; conv => whnf)))
        refine CallClo.auto put1Note_k ?_
        intro x hx
        (conv => whnf)
        (repeat (first | (exact Out.same; conv => whnf) | (exact Out1.same; conv => whnf) | (refine QAnd.mk ?_ ?_; conv => whnf) | (apply QStepH.go; conv => whnf) | (refine Both.lit_true ?_; conv => whnf) | (refine Both.lit_false ?_; conv => whnf) | (apply QStep.go; conv => whnf) | (refine Need.mk ?_ ?_; (focus (first | omega | exact ⟨by omega, by omega⟩ | rfl | exact ⟨rfl, rfl⟩ | exact ⟨rfl, by omega, by omega⟩ | exact ⟨by omega, by omega, by omega⟩ | exact ⟨rfl, Nat.le_of_ble_eq_true rfl⟩ | exact Nat.le_of_ble_eq_true rfl | (refine ⟨rfl, rfl, ?_⟩; simp [isFar, ofV0, CV.up, SV.renL, SV.ren] <;> fail) | (refine ⟨rfl, Nat.le_of_ble_eq_true rfl, ?_⟩; simp [isFar, ofV0, CV.up, SV.renL, SV.ren] <;> fail) | (simp <;> fail))); conv => whnf) | (refine ⟨_, rfl, ?_⟩; conv => whnf)))
        rcases hx with ⟨g1, g2, rfl⟩ | ⟨g1, rfl⟩
        · refine CallVC.auto byteOk_k (Need.mk (by omega) ⟨_, rfl, rfl, by omega, ?_⟩)
          (conv => whnf)
          (repeat (first | (exact Out.same; conv => whnf) | (exact Out1.same; conv => whnf) | (refine QAnd.mk ?_ ?_; conv => whnf) | (apply QStepH.go; conv => whnf) | (refine Both.lit_true ?_; conv => whnf) | (refine Both.lit_false ?_; conv => whnf) | (apply QStep.go; conv => whnf) | (refine Need.mk ?_ ?_; (focus (first | omega | exact ⟨by omega, by omega⟩ | rfl | exact ⟨rfl, rfl⟩ | exact ⟨rfl, by omega, by omega⟩ | exact ⟨by omega, by omega, by omega⟩ | exact ⟨rfl, Nat.le_of_ble_eq_true rfl⟩ | exact Nat.le_of_ble_eq_true rfl | (refine ⟨rfl, rfl, ?_⟩; simp [isFar, ofV0, CV.up, SV.renL, SV.ren] <;> fail) | (refine ⟨rfl, Nat.le_of_ble_eq_true rfl, ?_⟩; simp [isFar, ofV0, CV.up, SV.renL, SV.ren] <;> fail) | (simp <;> fail))); conv => whnf) | (refine ⟨_, rfl, ?_⟩; conv => whnf)))
          refine CallVC.auto pput_k (Need.mk ⟨u64_rng _, u64_rng _⟩ ⟨_, rfl, rfl, by simp; omega, ?_⟩)
          intro e2 l2 he2 hl2
          (conv => whnf)
          have hgd : c.good 4 = pok c.p.f (u64 c.p.s) (u64 c.p.t) c.p.d := by
            rw [Row.good, Row.kok, decide_eq_true ⟨g1, g2⟩, Bool.true_and]; rfl
          have hpl := pmore_len c.p.f (u64 c.p.s) (u64 c.p.t) c.p.d
          have hn := hst e2 l2 (by rw [hgd]; exact he2) (fun hg => by
            rw [hgd] at hg
            rw [hl2, Row.bytes, pmore, if_pos hg]
            simp) (by rw [hl2]; simp; omega)
          refine ⟨(k + 1, e2, l2), hn, by show l.length - (k + 1) < l.length - k; omega, Weak.auto ?_⟩
          (repeat' ((conv => whnf); first | exact True.intro | (refine And.intro ?_ ?_)))
          all_goals first | rfl | exact congrArg (SV.int .i64) (by rw [wrap_i64 (by omega) (by omega)]; rfl) | exact .eq rfl
        · refine CallVC.auto byteBad_k (Need.mk (by omega) ⟨_, rfl, rfl, by omega, ?_⟩)
          (conv => whnf)
          (repeat (first | (exact Out.same; conv => whnf) | (exact Out1.same; conv => whnf) | (refine QAnd.mk ?_ ?_; conv => whnf) | (apply QStepH.go; conv => whnf) | (refine Both.lit_true ?_; conv => whnf) | (refine Both.lit_false ?_; conv => whnf) | (apply QStep.go; conv => whnf) | (refine Need.mk ?_ ?_; (focus (first | omega | exact ⟨by omega, by omega⟩ | rfl | exact ⟨rfl, rfl⟩ | exact ⟨rfl, by omega, by omega⟩ | exact ⟨by omega, by omega, by omega⟩ | exact ⟨rfl, Nat.le_of_ble_eq_true rfl⟩ | exact Nat.le_of_ble_eq_true rfl | (refine ⟨rfl, rfl, ?_⟩; simp [isFar, ofV0, CV.up, SV.renL, SV.ren] <;> fail) | (refine ⟨rfl, Nat.le_of_ble_eq_true rfl, ?_⟩; simp [isFar, ofV0, CV.up, SV.renL, SV.ren] <;> fail) | (simp <;> fail))); conv => whnf) | (refine ⟨_, rfl, ?_⟩; conv => whnf)))
          refine CallVC.auto pput_k (Need.mk ⟨u64_rng _, u64_rng _⟩ ⟨_, rfl, rfl, by omega, ?_⟩)
          intro e2 l2 he2 hl2
          (conv => whnf)
          have hgd : c.good 4 = false := by
            rw [Row.good, Row.kok, decide_eq_false g1, Bool.false_and]
          have hpl := pmore_len c.p.f (u64 c.p.s) (u64 c.p.t) c.p.d
          have hn := hst e2 l2 (by
            rw [hgd, he2]
            simp only [Bool.false_eq_true, if_false]
            split
            · rfl
            · unfold errOf; by_cases he : e1 = 0 <;> simp [he]) (fun hg => by rw [hgd] at hg; cases hg) (by rw [hl2]; simp; omega)
          refine ⟨(k + 1, e2, l2), hn, by show l.length - (k + 1) < l.length - k; omega, Weak.auto ?_⟩
          (repeat' ((conv => whnf); first | exact True.intro | (refine And.intro ?_ ?_)))
          all_goals first | rfl | exact congrArg (SV.int .i64) (by rw [wrap_i64 (by omega) (by omega)]; rfl) | exact .eq rfl
      · obtain rfl : k = l.length := by have : ¬ (k : Int) < l.length := hge; omega
        (conv => whnf)
        exact ⟨_, _, WeakV.refl _ _ _ _, fin e1 l1 hI⟩
  · have i0 : InvPNote l0 l e 0 (errOf e) l0 := ⟨Nat.zero_le _, by simp [h255], fun h1 => by simp [h255] at h1, by simp⟩
    (repeat (first | (exact Out.same; conv => whnf) | (exact Out1.same; conv => whnf) | (refine QAnd.mk ?_ ?_; conv => whnf) | (apply QStepH.go; conv => whnf) | (refine Both.lit_true ?_; conv => whnf) | (refine Both.lit_false ?_; conv => whnf) | (apply QStep.go; conv => whnf) | (refine Need.mk ?_ ?_; (focus (first | omega | exact ⟨by omega, by omega⟩ | rfl | exact ⟨rfl, rfl⟩ | exact ⟨rfl, by omega, by omega⟩ | exact ⟨by omega, by omega, by omega⟩ | exact ⟨rfl, Nat.le_of_ble_eq_true rfl⟩ | exact Nat.le_of_ble_eq_true rfl | (refine ⟨rfl, rfl, ?_⟩; simp [isFar, ofV0, CV.up, SV.renL, SV.ren] <;> fail) | (refine ⟨rfl, Nat.le_of_ble_eq_true rfl, ?_⟩; simp [isFar, ofV0, CV.up, SV.renL, SV.ren] <;> fail) | (simp <;> fail))); conv => whnf) | (refine ⟨_, rfl, ?_⟩; conv => whnf)))
    refine CallVC.auto byteBad_k (Need.mk (by omega) ⟨_, rfl, rfl, by omega, ?_⟩)
    (conv => whnf)
    refine loop_rule (fun x : Nat × Int × List UInt8 => match x with
      | (k, e1, l1) => ⟨[.ptr 0 0, .func (.func 33) [], .any, .any, .any, .any, .any, .any, .any, .any, .any, .any, .any, .any, .sl 5 l.length (l.flatMap Row.enN) b, .int .i64 (l.length : Int), .int .i64 (k : Int), .any, .any, .any, .any, .any, .any, .any, .any, .any, .any, .any, .any, .any, .any, .any, .any], wrN e1 l1⟩) (fun x => InvPNote l0 l e x.1 x.2.1 x.2.2) (fun x => l.length - x.1) (0, errOf e, l0) i0 (Weak.auto ?_) ?_
    · (repeat' ((conv => whnf); first | exact True.intro | (refine And.intro ?_ ?_)))
      all_goals first | rfl | exact .eq rfl | done
    · rintro ⟨k, e1, l1⟩ hI
      have hI : InvPNote l0 l e k e1 l1 := hI
      have hk := hI.1
      have hbd := hI.2.2.2
      (refine sx_sound Γok _ ?_; conv => whnf)
      refine Both.dec (fun hlt => ?_) (fun hge => ?_)
      · have hkl : k < l.length := by have : (k : Int) < l.length := hlt; omega
        (conv => whnf)
        have hr := rows_row (en := Row.enN) (fun _ => rfl) l k hkl
        have hst := fun e2 l2 => step k e1 l1 e2 l2 hI hkl
        generalize hcc : l[k] = c at hr hst
        (repeat (first | (refine ⟨_, hr, ?_⟩; conv => whnf) | (exact Out.same; conv => whnf) | (exact Out1.same; conv => whnf) | (refine QAnd.mk ?_ ?_; conv => whnf) | (apply QStepH.go; conv => whnf) | (refine Both.lit_true ?_; conv => whnf) | (refine Both.lit_false ?_; conv => whnf) | (apply QStep.go; conv => whnf) | (refine Need.mk ?_ ?_; (focus (first | omega | exact ⟨by omega, by omega⟩ | rfl | exact ⟨rfl, rfl⟩ | exact ⟨rfl, by omega, by omega⟩ | exact ⟨by omega, by omega, by omega⟩ | exact ⟨rfl, Nat.le_of_ble_eq_true rfl⟩ | exact Nat.le_of_ble_eq_true rfl | (refine ⟨rfl, rfl, ?_⟩; simp [isFar, ofV0, CV.up, SV.renL, SV.ren] <;> fail) | (refine ⟨rfl, Nat.le_of_ble_eq_true rfl, ?_⟩; simp [isFar, ofV0, CV.up, SV.renL, SV.ren] <;> fail) | (simp <;> fail))); conv => whnf) | (refine ⟨_, rfl, ?_⟩; conv => whnf)))
        refine CallClo.auto put1Note_k ?_
        intro x hx
        (conv => whnf)
        (repeat (first | (exact Out.same; conv => whnf) | (exact Out1.same; conv => whnf) | (refine QAnd.mk ?_ ?_; conv => whnf) | (apply QStepH.go; conv => whnf) | (refine Both.lit_true ?_; conv => whnf) | (refine Both.lit_false ?_; conv => whnf) | (apply QStep.go; conv => whnf) | (refine Need.mk ?_ ?_; (focus (first | omega | exact ⟨by omega, by omega⟩ | rfl | exact ⟨rfl, rfl⟩ | exact ⟨rfl, by omega, by omega⟩ | exact ⟨by omega, by omega, by omega⟩ | exact ⟨rfl, Nat.le_of_ble_eq_true rfl⟩ | exact Nat.le_of_ble_eq_true rfl | (refine ⟨rfl, rfl, ?_⟩; simp [isFar, ofV0, CV.up, SV.renL, SV.ren] <;> fail) | (refine ⟨rfl, Nat.le_of_ble_eq_true rfl, ?_⟩; simp [isFar, ofV0, CV.up, SV.renL, SV.ren] <;> fail) | (simp <;> fail))); conv => whnf) | (refine ⟨_, rfl, ?_⟩; conv => whnf)))
        rcases hx with ⟨g1, g2, rfl⟩ | ⟨g1, rfl⟩
        · refine CallVC.auto byteOk_k (Need.mk (by omega) ⟨_, rfl, rfl, by omega, ?_⟩)
          (conv => whnf)
          (repeat (first | (exact Out.same; conv => whnf) | (exact Out1.same; conv => whnf) | (refine QAnd.mk ?_ ?_; conv => whnf) | (apply QStepH.go; conv => whnf) | (refine Both.lit_true ?_; conv => whnf) | (refine Both.lit_false ?_; conv => whnf) | (apply QStep.go; conv => whnf) | (refine Need.mk ?_ ?_; (focus (first | omega | exact ⟨by omega, by omega⟩ | rfl | exact ⟨rfl, rfl⟩ | exact ⟨rfl, by omega, by omega⟩ | exact ⟨by omega, by omega, by omega⟩ | exact ⟨rfl, Nat.le_of_ble_eq_true rfl⟩ | exact Nat.le_of_ble_eq_true rfl | (refine ⟨rfl, rfl, ?_⟩; simp [isFar, ofV0, CV.up, SV.renL, SV.ren] <;> fail) | (refine ⟨rfl, Nat.le_of_ble_eq_true rfl, ?_⟩; simp [isFar, ofV0, CV.up, SV.renL, SV.ren] <;> fail) | (simp <;> fail))); conv => whnf) | (refine ⟨_, rfl, ?_⟩; conv => whnf)))
          refine CallVC.auto pput_k (Need.mk ⟨u64_rng _, u64_rng _⟩ ⟨_, rfl, rfl, by simp; omega, ?_⟩)
          intro e2 l2 he2 hl2
          (conv => whnf)
          have hgd : c.good 4 = pok c.p.f (u64 c.p.s) (u64 c.p.t) c.p.d := by
            rw [Row.good, Row.kok, decide_eq_true ⟨g1, g2⟩, Bool.true_and]; rfl
          have hpl := pmore_len c.p.f (u64 c.p.s) (u64 c.p.t) c.p.d
          have hn := hst e2 l2 (by rw [hgd]; exact he2) (fun hg => by
            rw [hgd] at hg
            rw [hl2, Row.bytes, pmore, if_pos hg]
            simp) (by rw [hl2]; simp; omega)
          refine ⟨(k + 1, e2, l2), hn, by show l.length - (k + 1) < l.length - k; omega, Weak.auto ?_⟩
          (repeat' ((conv => whnf); first | exact True.intro | (refine And.intro ?_ ?_)))
          all_goals first | rfl | exact congrArg (SV.int .i64) (by rw [wrap_i64 (by omega) (by omega)]; rfl) | exact .eq rfl
        · refine CallVC.auto byteBad_k (Need.mk (by omega) ⟨_, rfl, rfl, by omega, ?_⟩)
          (conv => whnf)
          (repeat (first | (exact Out.same; conv => whnf) | (exact Out1.same; conv => whnf) | (refine QAnd.mk ?_ ?_; conv => whnf) | (apply QStepH.go; conv => whnf) | (refine Both.lit_true ?_; conv => whnf) | (refine Both.lit_false ?_; conv => whnf) | (apply QStep.go; conv => whnf) | (refine Need.mk ?_ ?_; (focus (first | omega | exact ⟨by omega, by omega⟩ | rfl | exact ⟨rfl, rfl⟩ | exact ⟨rfl, by omega, by omega⟩ | exact ⟨by omega, by omega, by omega⟩ | exact ⟨rfl, Nat.le_of_ble_eq_true rfl⟩ | exact Nat.le_of_ble_eq_true rfl | (refine ⟨rfl, rfl, ?_⟩; simp [isFar, ofV0, CV.up, SV.renL, SV.ren] <;> fail) | (refine ⟨rfl, Nat.le_of_ble_eq_true rfl, ?_⟩; simp [isFar, ofV0, CV.up, SV.renL, SV.ren] <;> fail) | (simp <;> fail))); conv => whnf) | (refine ⟨_, rfl, ?_⟩; conv => whnf)))
          refine CallVC.auto pput_k (Need.mk ⟨u64_rng _, u64_rng _⟩ ⟨_, rfl, rfl, by omega, ?_⟩)
          intro e2 l2 he2 hl2
          (conv => whnf)
          have hgd : c.good 4 = false := by
            rw [Row.good, Row.kok, decide_eq_false g1, Bool.false_and]
          have hpl := pmore_len c.p.f (u64 c.p.s) (u64 c.p.t) c.p.d
          have hn := hst e2 l2 (by
            rw [hgd, he2]
            simp only [Bool.false_eq_true, if_false]
            split
            · rfl
            · unfold errOf; by_cases he : e1 = 0 <;> simp [he]) (fun hg => by rw [hgd] at hg; cases hg) (by rw [hl2]; simp; omega)
          refine ⟨(k + 1, e2, l2), hn, by show l.length - (k + 1) < l.length - k; omega, Weak.auto ?_⟩
          (repeat' ((conv => whnf); first | exact True.intro | (refine And.intro ?_ ?_)))
          all_goals first | rfl | exact congrArg (SV.int .i64) (by rw [wrap_i64 (by omega) (by omega)]; rfl) | exact .eq rfl
      · obtain rfl : k = l.length := by have : ¬ (k : Int) < l.length := hge; omega
        (conv => whnf)
        exact ⟨_, _, WeakV.refl _ _ _ _, fin e1 l1 hI⟩
theorem putNote_k : Contract Try.prog [] 32 putNoteS := ⟨⟨⟨_, rfl, rfl, rfl⟩⟩, putNote_c⟩

def put1ItemS : Spec := fun args H Q => match args, H with
  | [.agg [.int .i64 f, .int .u64 s, .int .u64 t, .str d, .int .i64 k]], [] => ∀ x : Int, ((1 ≤ k ∧ k ≤ 2 ∧ x = k) ∨ (¬ (1 ≤ k ∧ k ≤ 2) ∧ x = -1)) → Q (.tuple [.int .i64 x, .agg [.int .i64 f, .int .u64 s, .int .u64 t, .str d]]) []
  | _, _ => False
theorem put1Item_c : Meets Try.prog [] 38 put1ItemS := by
  refine meets_of Γok Try.func38 rfl ?_
  intro args H Q h
  unfold put1ItemS at h
  split at h
  case h_2 => exact h.elim
  (refine sx_sound Γok _ ?_; conv => whnf)
  (repeat (first | (exact Out.same; conv => whnf) | (exact Out1.same; conv => whnf) | (refine QAnd.mk ?_ ?_; conv => whnf) | (apply QStepH.go; conv => whnf) | (refine Both.lit_true ?_; conv => whnf) | (refine Both.lit_false ?_; conv => whnf) | (apply QStep.go; conv => whnf) | (refine Need.mk ?_ ?_; (focus (first | omega | exact ⟨by omega, by omega⟩ | rfl | exact ⟨rfl, rfl⟩ | exact ⟨rfl, by omega, by omega⟩ | exact ⟨by omega, by omega, by omega⟩ | exact ⟨rfl, Nat.le_of_ble_eq_true rfl⟩ | exact Nat.le_of_ble_eq_true rfl | (refine ⟨rfl, rfl, ?_⟩; simp [isFar, ofV0, CV.up, SV.renL, SV.ren] <;> fail) | (refine ⟨rfl, Nat.le_of_ble_eq_true rfl, ?_⟩; simp [isFar, ofV0, CV.up, SV.renL, SV.ren] <;> fail) | (simp <;> fail))); conv => whnf) | (refine ⟨_, rfl, ?_⟩; conv => whnf)))
  (refine DrawVC.any Γok (by kernel_rfl) (by kernel_rfl) (by kernel_rfl) (by rfl) ?_; conv => whnf)
  (repeat (first | (exact Out.same; conv => whnf) | (exact Out1.same; conv => whnf) | (refine QAnd.mk ?_ ?_; conv => whnf) | (apply QStepH.go; conv => whnf) | (refine Both.lit_true ?_; conv => whnf) | (refine Both.lit_false ?_; conv => whnf) | (apply QStep.go; conv => whnf) | (refine Need.mk ?_ ?_; (focus (first | omega | exact ⟨by omega, by omega⟩ | rfl | exact ⟨rfl, rfl⟩ | exact ⟨rfl, by omega, by omega⟩ | exact ⟨by omega, by omega, by omega⟩ | exact ⟨rfl, Nat.le_of_ble_eq_true rfl⟩ | exact Nat.le_of_ble_eq_true rfl | (refine ⟨rfl, rfl, ?_⟩; simp [isFar, ofV0, CV.up, SV.renL, SV.ren] <;> fail) | (refine ⟨rfl, Nat.le_of_ble_eq_true rfl, ?_⟩; simp [isFar, ofV0, CV.up, SV.renL, SV.ren] <;> fail) | (simp <;> fail))); conv => whnf) | (refine ⟨_, rfl, ?_⟩; conv => whnf) | (refine CallVC.auto kind_k ?_; conv => whnf)))
  exact ⟨_, _, WeakV.drop rfl, h _ (kindV_or _ _)⟩
theorem put1Item_k : Contract Try.prog [] 38 put1ItemS := ⟨⟨⟨_, rfl, rfl, rfl⟩⟩, put1Item_c⟩
def putItemS : Spec := fun args H Q => match args, H with
  | [.ptr 0 0, .func (.func 38) [], .sl 5 n cs b], [.cells [.int .i64 e, .opt 0 1, .own 1] 65, .own 5 1 m xs true] => ∃ (l0 : List UInt8) (l : List Row), xs = bys l0 ∧ m = l0.length ∧ l0.length < 1000000 ∧ n = l.length ∧ cs = l.flatMap Row.enI ∧ l.length ≤ 300 ∧
    ∀ e' l', e' = (if goodR 2 l then e else errOf e) → (goodR 2 l = true → l' = l0 ++ outR l) → l'.length ≤ l0.length + 30000 → Q (.tuple []) (wrN e' l')
  | _, _ => False
def InvPItem (l0 : List UInt8) (l : List Row) (e : Int) (k : Nat) (e' : Int) (l' : List UInt8) : Prop :=
  k ≤ l.length ∧ e' = (if decide (l.length ≤ 255) && (l.take k).all (Row.good 2) then e else errOf e) ∧
    ((decide (l.length ≤ 255) && (l.take k).all (Row.good 2)) = true → l' = l0 ++ UInt8.ofNat l.length :: (l.take k).flatMap Row.bytes) ∧ l'.length ≤ l0.length + 1 + 84 * k
theorem putItem_c : Meets Try.prog [] 37 putItemS := by
  refine meets_of Γok Try.func37 rfl ?_
  intro args H Q h
  unfold putItemS at h
  split at h
  case h_2 => exact h.elim
  rename_i n cs b e m xs
  obtain ⟨l0, l, rfl, rfl, hl0, rfl, rfl, hlen, h⟩ := h
  have start : ∀ e1 l1, InvPItem l0 l e 0 e1 l1 → ∀ (s : LS) (c : Code) (K : Exit → LS → Prop), True := fun _ _ _ _ _ _ => trivial
  have fin : ∀ e1 l1, InvPItem l0 l e l.length e1 l1 → Q (.tuple []) (wrN e1 l1) := by
    intro e1 l1 ⟨_, h2, h3, h4⟩
    rw [List.take_length] at h2 h3
    exact h e1 l1 h2 h3 (by omega)
  have step : ∀ k e1 l1 e2 l2, InvPItem l0 l e k e1 l1 → (hk : k < l.length) → e2 = (if l[k].good 2 then e1 else errOf e1) → (l[k].good 2 = true → l2 = l1 ++ l[k].bytes) → l2.length ≤ l1.length + 84 → InvPItem l0 l e (k + 1) e2 l2 := by
    intro k e1 l1 e2 l2 ⟨h1, h2, h3, h4⟩ hk h5 h6 h7
    refine ⟨hk, ?_, ?_, by omega⟩
    · rw [List.take_succ_eq_append_getElem hk, List.all_append, h5, h2]
      simp only [List.all_cons, List.all_nil, Bool.and_true]
      cases l[k].good 2
      · simp only [Bool.and_false, Bool.false_eq_true, if_false]
        split
        · rfl
        · unfold errOf; by_cases he : e = 0 <;> simp [he]
      · simp
    · intro hg
      rw [List.take_succ_eq_append_getElem hk, List.all_append] at hg
      simp only [List.all_cons, List.all_nil, Bool.and_true, Bool.and_eq_true] at hg
      rw [h6 hg.2.2, h3 (by simp only [Bool.and_eq_true]; exact ⟨hg.1, hg.2.1⟩), List.take_succ_eq_append_getElem hk, List.flatMap_append]
      simp
  have loop : ∀ (c : Code), True := fun _ => trivial
  (refine sx_sound Γok _ ?_; conv => whnf)
  by_cases h255 : l.length ≤ 255
  · have i0 : InvPItem l0 l e 0 e (l0 ++ [UInt8.ofNat l.length]) := ⟨Nat.zero_le _, by simp [h255], fun _ => by simp, by simp⟩
    (repeat (first | (exact Out.same; conv => whnf) | (exact Out1.same; conv => whnf) | (refine QAnd.mk ?_ ?_; conv => whnf) | (apply QStepH.go; conv => whnf) | (refine Both.lit_true ?_; conv => whnf) | (refine Both.lit_false ?_; conv => whnf) | (apply QStep.go; conv => whnf) | (refine Need.mk ?_ ?_; (focus (first | omega | exact ⟨by omega, by omega⟩ | rfl | exact ⟨rfl, rfl⟩ | exact ⟨rfl, by omega, by omega⟩ | exact ⟨by omega, by omega, by omega⟩ | exact ⟨rfl, Nat.le_of_ble_eq_true rfl⟩ | exact Nat.le_of_ble_eq_true rfl | (refine ⟨rfl, rfl, ?_⟩; simp [isFar, ofV0, CV.up, SV.renL, SV.ren] <;> fail) | (refine ⟨rfl, Nat.le_of_ble_eq_true rfl, ?_⟩; simp [isFar, ofV0, CV.up, SV.renL, SV.ren] <;> fail) | (simp <;> fail))); conv => whnf) | (refine ⟨_, rfl, ?_⟩; conv => whnf)))
    refine CallVC.auto byteOk_k (Need.mk (by omega) ⟨_, rfl, rfl, by omega, ?_⟩)
    (conv => whnf)
    refine loop_rule (fun x : Nat × Int × List UInt8 => match x with
      | (k, e1, l1) => ⟨[.ptr 0 0, .func (.func 38) [], .any, .any, .any, .any, .any, .any, .any, .any, .any, .any, .any, .any, .sl 5 l.length (l.flatMap Row.enI) b, .int .i64 (l.length : Int), .int .i64 (k : Int), .any, .any, .any, .any, .any, .any, .any, .any, .any, .any, .any, .any, .any, .any, .any, .any], wrN e1 l1⟩) (fun x => InvPItem l0 l e x.1 x.2.1 x.2.2) (fun x => l.length - x.1) (0, e, l0 ++ [UInt8.ofNat l.length]) i0 (Weak.auto ?_) ?_
    · (repeat' ((conv => whnf); first | exact True.intro | (refine And.intro ?_ ?_)))
      all_goals first | rfl | exact .eq rfl | done
    · rintro ⟨k, e1, l1⟩ hI
      have hI : InvPItem l0 l e k e1 l1 := hI
      have hk := hI.1
      have hbd := hI.2.2.2
      (refine sx_sound Γok _ ?_; conv => whnf)
      refine Both.dec (fun hlt => ?_) (fun hge => ?_)
      · have hkl : k < l.length := by have : (k : Int) < l.length := hlt; omega
        (conv => whnf)
        have hr := rows_row (en := Row.enI) (fun _ => rfl) l k hkl
        have hst := fun e2 l2 => step k e1 l1 e2 l2 hI hkl
        generalize hcc : l[k] = c at hr hst
        (repeat (first | (refine ⟨_, hr, ?_⟩; conv => whnf) | (exact Out.same; conv => whnf) | (exact Out1.same; conv => whnf) | (refine QAnd.mk ?_ ?_; conv => whnf) | (apply QStepH.go; conv => whnf) | (refine Both.lit_true ?_; conv => whnf) | (refine Both.lit_false ?_; conv => whnf) | (apply QStep.go; conv => whnf) | (refine Need.mk ?_ ?_; (focus (first | omega | exact ⟨by omega, by omega⟩ | rfl | exact ⟨rfl, rfl⟩ | exact ⟨rfl, by omega, by omega⟩ | exact ⟨by omega, by omega, by omega⟩ | exact ⟨rfl, Nat.le_of_ble_eq_true rfl⟩ | exact Nat.le_of_ble_eq_true rfl | (refine ⟨rfl, rfl, ?_⟩; simp [isFar, ofV0, CV.up, SV.renL, SV.ren] <;> fail) | (refine ⟨rfl, Nat.le_of_ble_eq_true rfl, ?_⟩; simp [isFar, ofV0, CV.up, SV.renL, SV.ren] <;> fail) | (simp <;> fail))); conv => whnf) | (refine ⟨_, rfl, ?_⟩; conv => whnf)))
        refine CallClo.auto put1Item_k ?_
        intro x hx
        (conv => whnf)
        (repeat (first | (exact Out.same; conv => whnf) | (exact Out1.same; conv => whnf) | (refine QAnd.mk ?_ ?_; conv => whnf) | (apply QStepH.go; conv => whnf) | (refine Both.lit_true ?_; conv => whnf) | (refine Both.lit_false ?_; conv => whnf) | (apply QStep.go; conv => whnf) | (refine Need.mk ?_ ?_; (focus (first | omega | exact ⟨by omega, by omega⟩ | rfl | exact ⟨rfl, rfl⟩ | exact ⟨rfl, by omega, by omega⟩ | exact ⟨by omega, by omega, by omega⟩ | exact ⟨rfl, Nat.le_of_ble_eq_true rfl⟩ | exact Nat.le_of_ble_eq_true rfl | (refine ⟨rfl, rfl, ?_⟩; simp [isFar, ofV0, CV.up, SV.renL, SV.ren] <;> fail) | (refine ⟨rfl, Nat.le_of_ble_eq_true rfl, ?_⟩; simp [isFar, ofV0, CV.up, SV.renL, SV.ren] <;> fail) | (simp <;> fail))); conv => whnf) | (refine ⟨_, rfl, ?_⟩; conv => whnf)))
        rcases hx with ⟨g1, g2, rfl⟩ | ⟨g1, rfl⟩
        · refine CallVC.auto byteOk_k (Need.mk (by omega) ⟨_, rfl, rfl, by omega, ?_⟩)
          (conv => whnf)
          (repeat (first | (exact Out.same; conv => whnf) | (exact Out1.same; conv => whnf) | (refine QAnd.mk ?_ ?_; conv => whnf) | (apply QStepH.go; conv => whnf) | (refine Both.lit_true ?_; conv => whnf) | (refine Both.lit_false ?_; conv => whnf) | (apply QStep.go; conv => whnf) | (refine Need.mk ?_ ?_; (focus (first | omega | exact ⟨by omega, by omega⟩ | rfl | exact ⟨rfl, rfl⟩ | exact ⟨rfl, by omega, by omega⟩ | exact ⟨by omega, by omega, by omega⟩ | exact ⟨rfl, Nat.le_of_ble_eq_true rfl⟩ | exact Nat.le_of_ble_eq_true rfl | (refine ⟨rfl, rfl, ?_⟩; simp [isFar, ofV0, CV.up, SV.renL, SV.ren] <;> fail) | (refine ⟨rfl, Nat.le_of_ble_eq_true rfl, ?_⟩; simp [isFar, ofV0, CV.up, SV.renL, SV.ren] <;> fail) | (simp <;> fail))); conv => whnf) | (refine ⟨_, rfl, ?_⟩; conv => whnf)))
          refine CallVC.auto pput_k (Need.mk ⟨u64_rng _, u64_rng _⟩ ⟨_, rfl, rfl, by simp; omega, ?_⟩)
          intro e2 l2 he2 hl2
          (conv => whnf)
          have hgd : c.good 2 = pok c.p.f (u64 c.p.s) (u64 c.p.t) c.p.d := by
            rw [Row.good, Row.kok, decide_eq_true ⟨g1, g2⟩, Bool.true_and]; rfl
          have hpl := pmore_len c.p.f (u64 c.p.s) (u64 c.p.t) c.p.d
          have hn := hst e2 l2 (by rw [hgd]; exact he2) (fun hg => by
            rw [hgd] at hg
            rw [hl2, Row.bytes, pmore, if_pos hg]
            simp) (by rw [hl2]; simp; omega)
          refine ⟨(k + 1, e2, l2), hn, by show l.length - (k + 1) < l.length - k; omega, Weak.auto ?_⟩
          (repeat' ((conv => whnf); first | exact True.intro | (refine And.intro ?_ ?_)))
          all_goals first | rfl | exact congrArg (SV.int .i64) (by rw [wrap_i64 (by omega) (by omega)]; rfl) | exact .eq rfl
        · refine CallVC.auto byteBad_k (Need.mk (by omega) ⟨_, rfl, rfl, by omega, ?_⟩)
          (conv => whnf)
          (repeat (first | (exact Out.same; conv => whnf) | (exact Out1.same; conv => whnf) | (refine QAnd.mk ?_ ?_; conv => whnf) | (apply QStepH.go; conv => whnf) | (refine Both.lit_true ?_; conv => whnf) | (refine Both.lit_false ?_; conv => whnf) | (apply QStep.go; conv => whnf) | (refine Need.mk ?_ ?_; (focus (first | omega | exact ⟨by omega, by omega⟩ | rfl | exact ⟨rfl, rfl⟩ | exact ⟨rfl, by omega, by omega⟩ | exact ⟨by omega, by omega, by omega⟩ | exact ⟨rfl, Nat.le_of_ble_eq_true rfl⟩ | exact Nat.le_of_ble_eq_true rfl | (refine ⟨rfl, rfl, ?_⟩; simp [isFar, ofV0, CV.up, SV.renL, SV.ren] <;> fail) | (refine ⟨rfl, Nat.le_of_ble_eq_true rfl, ?_⟩; simp [isFar, ofV0, CV.up, SV.renL, SV.ren] <;> fail) | (simp <;> fail))); conv => whnf) | (refine ⟨_, rfl, ?_⟩; conv => whnf)))
          refine CallVC.auto pput_k (Need.mk ⟨u64_rng _, u64_rng _⟩ ⟨_, rfl, rfl, by omega, ?_⟩)
          intro e2 l2 he2 hl2
          (conv => whnf)
          have hgd : c.good 2 = false := by
            rw [Row.good, Row.kok, decide_eq_false g1, Bool.false_and]
          have hpl := pmore_len c.p.f (u64 c.p.s) (u64 c.p.t) c.p.d
          have hn := hst e2 l2 (by
            rw [hgd, he2]
            simp only [Bool.false_eq_true, if_false]
            split
            · rfl
            · unfold errOf; by_cases he : e1 = 0 <;> simp [he]) (fun hg => by rw [hgd] at hg; cases hg) (by rw [hl2]; simp; omega)
          refine ⟨(k + 1, e2, l2), hn, by show l.length - (k + 1) < l.length - k; omega, Weak.auto ?_⟩
          (repeat' ((conv => whnf); first | exact True.intro | (refine And.intro ?_ ?_)))
          all_goals first | rfl | exact congrArg (SV.int .i64) (by rw [wrap_i64 (by omega) (by omega)]; rfl) | exact .eq rfl
      · obtain rfl : k = l.length := by have : ¬ (k : Int) < l.length := hge; omega
        (conv => whnf)
        exact ⟨_, _, WeakV.refl _ _ _ _, fin e1 l1 hI⟩
  · have i0 : InvPItem l0 l e 0 (errOf e) l0 := ⟨Nat.zero_le _, by simp [h255], fun h1 => by simp [h255] at h1, by simp⟩
    (repeat (first | (exact Out.same; conv => whnf) | (exact Out1.same; conv => whnf) | (refine QAnd.mk ?_ ?_; conv => whnf) | (apply QStepH.go; conv => whnf) | (refine Both.lit_true ?_; conv => whnf) | (refine Both.lit_false ?_; conv => whnf) | (apply QStep.go; conv => whnf) | (refine Need.mk ?_ ?_; (focus (first | omega | exact ⟨by omega, by omega⟩ | rfl | exact ⟨rfl, rfl⟩ | exact ⟨rfl, by omega, by omega⟩ | exact ⟨by omega, by omega, by omega⟩ | exact ⟨rfl, Nat.le_of_ble_eq_true rfl⟩ | exact Nat.le_of_ble_eq_true rfl | (refine ⟨rfl, rfl, ?_⟩; simp [isFar, ofV0, CV.up, SV.renL, SV.ren] <;> fail) | (refine ⟨rfl, Nat.le_of_ble_eq_true rfl, ?_⟩; simp [isFar, ofV0, CV.up, SV.renL, SV.ren] <;> fail) | (simp <;> fail))); conv => whnf) | (refine ⟨_, rfl, ?_⟩; conv => whnf)))
    refine CallVC.auto byteBad_k (Need.mk (by omega) ⟨_, rfl, rfl, by omega, ?_⟩)
    (conv => whnf)
    refine loop_rule (fun x : Nat × Int × List UInt8 => match x with
      | (k, e1, l1) => ⟨[.ptr 0 0, .func (.func 38) [], .any, .any, .any, .any, .any, .any, .any, .any, .any, .any, .any, .any, .sl 5 l.length (l.flatMap Row.enI) b, .int .i64 (l.length : Int), .int .i64 (k : Int), .any, .any, .any, .any, .any, .any, .any, .any, .any, .any, .any, .any, .any, .any, .any, .any], wrN e1 l1⟩) (fun x => InvPItem l0 l e x.1 x.2.1 x.2.2) (fun x => l.length - x.1) (0, errOf e, l0) i0 (Weak.auto ?_) ?_
    · (repeat' ((conv => whnf); first | exact True.intro | (refine And.intro ?_ ?_)))
      all_goals first | rfl | exact .eq rfl | done
    · rintro ⟨k, e1, l1⟩ hI
      have hI : InvPItem l0 l e k e1 l1 := hI
      have hk := hI.1
      have hbd := hI.2.2.2
      (refine sx_sound Γok _ ?_; conv => whnf)
      refine Both.dec (fun hlt => ?_) (fun hge => ?_)
      · have hkl : k < l.length := by have : (k : Int) < l.length := hlt; omega
        (conv => whnf)
        have hr := rows_row (en := Row.enI) (fun _ => rfl) l k hkl
        have hst := fun e2 l2 => step k e1 l1 e2 l2 hI hkl
        generalize hcc : l[k] = c at hr hst
        (repeat (first | (refine ⟨_, hr, ?_⟩; conv => whnf) | (exact Out.same; conv => whnf) | (exact Out1.same; conv => whnf) | (refine QAnd.mk ?_ ?_; conv => whnf) | (apply QStepH.go; conv => whnf) | (refine Both.lit_true ?_; conv => whnf) | (refine Both.lit_false ?_; conv => whnf) | (apply QStep.go; conv => whnf) | (refine Need.mk ?_ ?_; (focus (first | omega | exact ⟨by omega, by omega⟩ | rfl | exact ⟨rfl, rfl⟩ | exact ⟨rfl, by omega, by omega⟩ | exact ⟨by omega, by omega, by omega⟩ | exact ⟨rfl, Nat.le_of_ble_eq_true rfl⟩ | exact Nat.le_of_ble_eq_true rfl | (refine ⟨rfl, rfl, ?_⟩; simp [isFar, ofV0, CV.up, SV.renL, SV.ren] <;> fail) | (refine ⟨rfl, Nat.le_of_ble_eq_true rfl, ?_⟩; simp [isFar, ofV0, CV.up, SV.renL, SV.ren] <;> fail) | (simp <;> fail))); conv => whnf) | (refine ⟨_, rfl, ?_⟩; conv => whnf)))
        refine CallClo.auto put1Item_k ?_
        intro x hx
        (conv => whnf)
        (repeat (first | (exact Out.same; conv => whnf) | (exact Out1.same; conv => whnf) | (refine QAnd.mk ?_ ?_; conv => whnf) | (apply QStepH.go; conv => whnf) | (refine Both.lit_true ?_; conv => whnf) | (refine Both.lit_false ?_; conv => whnf) | (apply QStep.go; conv => whnf) | (refine Need.mk ?_ ?_; (focus (first | omega | exact ⟨by omega, by omega⟩ | rfl | exact ⟨rfl, rfl⟩ | exact ⟨rfl, by omega, by omega⟩ | exact ⟨by omega, by omega, by omega⟩ | exact ⟨rfl, Nat.le_of_ble_eq_true rfl⟩ | exact Nat.le_of_ble_eq_true rfl | (refine ⟨rfl, rfl, ?_⟩; simp [isFar, ofV0, CV.up, SV.renL, SV.ren] <;> fail) | (refine ⟨rfl, Nat.le_of_ble_eq_true rfl, ?_⟩; simp [isFar, ofV0, CV.up, SV.renL, SV.ren] <;> fail) | (simp <;> fail))); conv => whnf) | (refine ⟨_, rfl, ?_⟩; conv => whnf)))
        rcases hx with ⟨g1, g2, rfl⟩ | ⟨g1, rfl⟩
        · refine CallVC.auto byteOk_k (Need.mk (by omega) ⟨_, rfl, rfl, by omega, ?_⟩)
          (conv => whnf)
          (repeat (first | (exact Out.same; conv => whnf) | (exact Out1.same; conv => whnf) | (refine QAnd.mk ?_ ?_; conv => whnf) | (apply QStepH.go; conv => whnf) | (refine Both.lit_true ?_; conv => whnf) | (refine Both.lit_false ?_; conv => whnf) | (apply QStep.go; conv => whnf) | (refine Need.mk ?_ ?_; (focus (first | omega | exact ⟨by omega, by omega⟩ | rfl | exact ⟨rfl, rfl⟩ | exact ⟨rfl, by omega, by omega⟩ | exact ⟨by omega, by omega, by omega⟩ | exact ⟨rfl, Nat.le_of_ble_eq_true rfl⟩ | exact Nat.le_of_ble_eq_true rfl | (refine ⟨rfl, rfl, ?_⟩; simp [isFar, ofV0, CV.up, SV.renL, SV.ren] <;> fail) | (refine ⟨rfl, Nat.le_of_ble_eq_true rfl, ?_⟩; simp [isFar, ofV0, CV.up, SV.renL, SV.ren] <;> fail) | (simp <;> fail))); conv => whnf) | (refine ⟨_, rfl, ?_⟩; conv => whnf)))
          refine CallVC.auto pput_k (Need.mk ⟨u64_rng _, u64_rng _⟩ ⟨_, rfl, rfl, by simp; omega, ?_⟩)
          intro e2 l2 he2 hl2
          (conv => whnf)
          have hgd : c.good 2 = pok c.p.f (u64 c.p.s) (u64 c.p.t) c.p.d := by
            rw [Row.good, Row.kok, decide_eq_true ⟨g1, g2⟩, Bool.true_and]; rfl
          have hpl := pmore_len c.p.f (u64 c.p.s) (u64 c.p.t) c.p.d
          have hn := hst e2 l2 (by rw [hgd]; exact he2) (fun hg => by
            rw [hgd] at hg
            rw [hl2, Row.bytes, pmore, if_pos hg]
            simp) (by rw [hl2]; simp; omega)
          refine ⟨(k + 1, e2, l2), hn, by show l.length - (k + 1) < l.length - k; omega, Weak.auto ?_⟩
          (repeat' ((conv => whnf); first | exact True.intro | (refine And.intro ?_ ?_)))
          all_goals first | rfl | exact congrArg (SV.int .i64) (by rw [wrap_i64 (by omega) (by omega)]; rfl) | exact .eq rfl
        · refine CallVC.auto byteBad_k (Need.mk (by omega) ⟨_, rfl, rfl, by omega, ?_⟩)
          (conv => whnf)
          (repeat (first | (exact Out.same; conv => whnf) | (exact Out1.same; conv => whnf) | (refine QAnd.mk ?_ ?_; conv => whnf) | (apply QStepH.go; conv => whnf) | (refine Both.lit_true ?_; conv => whnf) | (refine Both.lit_false ?_; conv => whnf) | (apply QStep.go; conv => whnf) | (refine Need.mk ?_ ?_; (focus (first | omega | exact ⟨by omega, by omega⟩ | rfl | exact ⟨rfl, rfl⟩ | exact ⟨rfl, by omega, by omega⟩ | exact ⟨by omega, by omega, by omega⟩ | exact ⟨rfl, Nat.le_of_ble_eq_true rfl⟩ | exact Nat.le_of_ble_eq_true rfl | (refine ⟨rfl, rfl, ?_⟩; simp [isFar, ofV0, CV.up, SV.renL, SV.ren] <;> fail) | (refine ⟨rfl, Nat.le_of_ble_eq_true rfl, ?_⟩; simp [isFar, ofV0, CV.up, SV.renL, SV.ren] <;> fail) | (simp <;> fail))); conv => whnf) | (refine ⟨_, rfl, ?_⟩; conv => whnf)))
          refine CallVC.auto pput_k (Need.mk ⟨u64_rng _, u64_rng _⟩ ⟨_, rfl, rfl, by omega, ?_⟩)
          intro e2 l2 he2 hl2
          (conv => whnf)
          have hgd : c.good 2 = false := by
            rw [Row.good, Row.kok, decide_eq_false g1, Bool.false_and]
          have hpl := pmore_len c.p.f (u64 c.p.s) (u64 c.p.t) c.p.d
          have hn := hst e2 l2 (by
            rw [hgd, he2]
            simp only [Bool.false_eq_true, if_false]
            split
            · rfl
            · unfold errOf; by_cases he : e1 = 0 <;> simp [he]) (fun hg => by rw [hgd] at hg; cases hg) (by rw [hl2]; simp; omega)
          refine ⟨(k + 1, e2, l2), hn, by show l.length - (k + 1) < l.length - k; omega, Weak.auto ?_⟩
          (repeat' ((conv => whnf); first | exact True.intro | (refine And.intro ?_ ?_)))
          all_goals first | rfl | exact congrArg (SV.int .i64) (by rw [wrap_i64 (by omega) (by omega)]; rfl) | exact .eq rfl
      · obtain rfl : k = l.length := by have : ¬ (k : Int) < l.length := hge; omega
        (conv => whnf)
        exact ⟨_, _, WeakV.refl _ _ _ _, fin e1 l1 hI⟩
theorem putItem_k : Contract Try.prog [] 37 putItemS := ⟨⟨⟨_, rfl, rfl, rfl⟩⟩, putItem_c⟩
end Go.LX
