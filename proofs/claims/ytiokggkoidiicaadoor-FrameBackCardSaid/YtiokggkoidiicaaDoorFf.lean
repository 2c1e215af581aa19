import Derived.Test.YtiokggkoidiicaaDoorTy
set_option maxRecDepth 100000
set_option maxHeartbeats 1000000
set_option autoImplicit false
set_option linter.unusedVariables false
set_option linter.unusedSimpArgs false
namespace Go.LX
open Go.Proofs

/-! ## strings.Trim of one letter, the zero -/
def trimL : List UInt8 → List UInt8
  | [] => []
  | b :: t => if b = 0 then trimL t else b :: t
def trimR (s : List UInt8) : List UInt8 := (trimL s.reverse).reverse
theorem trimR_zero (u : List UInt8) : trimR (u ++ [0]) = trimR u := by simp [trimR, trimL]
theorem trimR_some (u : List UInt8) {b : UInt8} (h : b ≠ 0) : trimR (u ++ [b]) = u ++ [b] := by simp [trimR, trimL, h]
theorem trimL_nil : ∀ (s : List UInt8), trimL s = [] ↔ s = List.replicate s.length 0
  | [] => by simp [trimL]
  | b :: t => by
    by_cases h : b = 0
    · have e : trimL (b :: t) = trimL t := by rw [trimL, if_pos h]
      rw [e, trimL_nil t, List.length_cons, List.replicate_succ, h]
      simp
    · have e : trimL (b :: t) = b :: t := by rw [trimL, if_neg h]
      rw [e, List.length_cons, List.replicate_succ]
      simp [h]
theorem trim_nil (s : List UInt8) : trimL (trimR s) = [] ↔ s = List.replicate s.length 0 := by
  have h1 := trimL_nil s.reverse
  constructor
  · intro h
    have hz := (trimL_nil _).1 h
    have : ∀ r : List UInt8, (∀ x ∈ trimL r, x = 0) → trimL r = [] := by
      intro r
      induction r with
      | nil => intro _; rfl
      | cons b t ih =>
        intro hx
        unfold trimL at hx ⊢
        split
        · rename_i hb
          rw [if_pos hb] at hx
          exact ih hx
        · rename_i hb
          rw [if_neg hb] at hx
          exact absurd (hx b (by simp)) hb
    have h2 := this s.reverse (fun x hx => by
      have : x ∈ trimR s := by unfold trimR; simpa using hx
      rw [hz] at this
      exact List.eq_of_mem_replicate this)
    have h3 := h1.1 h2
    have h4 := congrArg List.reverse h3
    simpa using h4
  · intro h
    have h2 : s.reverse = List.replicate s.reverse.length 0 := by
      have := congrArg List.reverse h
      simpa using this
    have h3 := h1.2 h2
    unfold trimR
    rw [h3]
    rfl
def trimLS : Spec := fun args H Q => match args, H with
  | [.str s, .int .u8 c], [] => c = 0 ∧ Q (.str (trimL s)) []
  | _, _ => False
theorem trimL_c : Meets Tryd.prog [] 48 trimLS := by
  refine meets_of Γok Tryd.func48 rfl ?_
  intro args H Q h
  unfold trimLS at h
  split at h
  case h_2 => exact h.elim
  rename_i s c
  obtain ⟨rfl, h⟩ := h
  (refine sx_sound Γok _ ?_; conv => whnf)
  refine loop_rule (fun t : List UInt8 => ⟨[.str t, .int .u8 0, .any, .any, .any, .any, .any, .any, .any, .any, .any, .any, .any, .any, .any, .any, .any], []⟩) (fun t => trimL t = trimL s ∧ t.length ≤ s.length) (fun t => t.length) s ⟨rfl, Nat.le_refl _⟩ (Weak.auto ?_) ?_
  · (repeat' ((conv => whnf); first | exact True.intro | (refine And.intro ?_ ?_)))
    all_goals first | rfl | exact .eq rfl
  rintro t ⟨ht, htl⟩
  cases t with
  | nil =>
    (refine sx_sound Γok _ ?_; conv => whnf)
    (repeat (first | (exact Out.same; conv => whnf) | (exact Out1.same; conv => whnf) | (refine QAnd.mk ?_ ?_; conv => whnf) | (apply QStepH.go; conv => whnf) | (refine Both.lit_true ?_; conv => whnf) | (refine Both.lit_false ?_; conv => whnf) | (apply QStep.go; conv => whnf) | (refine Need.mk ?_ ?_; (focus (first | omega | exact ⟨by omega, by omega⟩ | rfl | exact ⟨rfl, rfl⟩ | exact ⟨rfl, by omega, by omega⟩ | exact ⟨by omega, by omega, by omega⟩ | exact ⟨rfl, Nat.le_of_ble_eq_true rfl⟩ | exact Nat.le_of_ble_eq_true rfl | (refine ⟨rfl, rfl, ?_⟩; simp [isFar, ofV0, CV.up, SV.renL, SV.ren] <;> fail) | (refine ⟨rfl, Nat.le_of_ble_eq_true rfl, ?_⟩; simp [isFar, ofV0, CV.up, SV.renL, SV.ren] <;> fail) | (simp only [List.length_append, List.length_drop, List.length_take, List.length_replicate, List.length_map]; omega) | (simp <;> fail))); conv => whnf) | (refine ⟨_, rfl, ?_⟩; conv => whnf)))
    refine ⟨_, _, WeakV.drop rfl, ?_⟩
    rw [← ht] at h
    exact h
  | cons b t =>
    have hpos : decide ((0 : Int) < (((b :: t).length : Nat) : Int)) = true := decide_eq_true (by simp only [List.length_cons]; omega)
    have hix : (0 : Int) ≤ 0 ∧ (0 : Int) < (((b :: t).length : Nat) : Int) := by simp only [List.length_cons]; omega
    have hsl : (0 : Int) ≤ 1 ∧ (1 : Int) ≤ (((b :: t).length : Nat) : Int) := by simp only [List.length_cons]; omega
    (refine sx_sound Γok _ ?_; conv => whnf)
    (repeat (first | (refine Both.of_true hpos ?_; conv => whnf) | (refine Need.mk hix ?_; conv => whnf) | (exact Out.same; conv => whnf) | (exact Out1.same; conv => whnf) | (refine QAnd.mk ?_ ?_; conv => whnf) | (apply QStepH.go; conv => whnf) | (refine Both.lit_true ?_; conv => whnf) | (refine Both.lit_false ?_; conv => whnf) | (apply QStep.go; conv => whnf) | (refine Need.mk ?_ ?_; (focus (first | omega | exact ⟨by omega, by omega⟩ | rfl | exact ⟨rfl, rfl⟩ | exact ⟨rfl, by omega, by omega⟩ | exact ⟨by omega, by omega, by omega⟩ | exact ⟨rfl, Nat.le_of_ble_eq_true rfl⟩ | exact Nat.le_of_ble_eq_true rfl | (refine ⟨rfl, rfl, ?_⟩; simp [isFar, ofV0, CV.up, SV.renL, SV.ren] <;> fail) | (refine ⟨rfl, Nat.le_of_ble_eq_true rfl, ?_⟩; simp [isFar, ofV0, CV.up, SV.renL, SV.ren] <;> fail) | (simp only [List.length_append, List.length_drop, List.length_take, List.length_replicate, List.length_map]; omega) | (simp <;> fail))); conv => whnf) | (refine ⟨_, rfl, ?_⟩; conv => whnf)))
    refine Both.dec (fun hq => ?_) (fun hq => ?_)
    · have hb : b = 0 := UInt8.toNat_inj.1 (by have : ((b.toNat : Nat) : Int) = 0 := hq; exact Int.ofNat.inj this)
      subst hb
      (conv => whnf)
      (repeat (first | (refine Need.mk hsl ?_; conv => whnf) | (exact Out.same; conv => whnf) | (exact Out1.same; conv => whnf) | (refine QAnd.mk ?_ ?_; conv => whnf) | (apply QStepH.go; conv => whnf) | (refine Both.lit_true ?_; conv => whnf) | (refine Both.lit_false ?_; conv => whnf) | (apply QStep.go; conv => whnf) | (refine Need.mk ?_ ?_; (focus (first | omega | exact ⟨by omega, by omega⟩ | rfl | exact ⟨rfl, rfl⟩ | exact ⟨rfl, by omega, by omega⟩ | exact ⟨by omega, by omega, by omega⟩ | exact ⟨rfl, Nat.le_of_ble_eq_true rfl⟩ | exact Nat.le_of_ble_eq_true rfl | (refine ⟨rfl, rfl, ?_⟩; simp [isFar, ofV0, CV.up, SV.renL, SV.ren] <;> fail) | (refine ⟨rfl, Nat.le_of_ble_eq_true rfl, ?_⟩; simp [isFar, ofV0, CV.up, SV.renL, SV.ren] <;> fail) | (simp only [List.length_append, List.length_drop, List.length_take, List.length_replicate, List.length_map]; omega) | (simp <;> fail))); conv => whnf) | (refine ⟨_, rfl, ?_⟩; conv => whnf)))
      have htk : List.drop (Int.toNat 1) (List.take ((((0 : UInt8) :: t).length : Nat) : Int).toNat ((0 : UInt8) :: t)) = t := by
        rw [Int.toNat_natCast, List.take_length]
        rfl
      refine ⟨t, ⟨?_, by simp at htl; omega⟩, by simp, Weak.auto ?_⟩
      · rw [← ht]
        simp [trimL]
      · (repeat' ((conv => whnf); first | exact True.intro | (refine And.intro ?_ ?_)))
        all_goals first | rfl | exact .eq rfl | exact congrArg SV.str htk
    · have hb : b ≠ 0 := fun e => hq (by rw [e]; rfl)
      (conv => whnf)
      (repeat (first | (exact Out.same; conv => whnf) | (exact Out1.same; conv => whnf) | (refine QAnd.mk ?_ ?_; conv => whnf) | (apply QStepH.go; conv => whnf) | (refine Both.lit_true ?_; conv => whnf) | (refine Both.lit_false ?_; conv => whnf) | (apply QStep.go; conv => whnf) | (refine Need.mk ?_ ?_; (focus (first | omega | exact ⟨by omega, by omega⟩ | rfl | exact ⟨rfl, rfl⟩ | exact ⟨rfl, by omega, by omega⟩ | exact ⟨by omega, by omega, by omega⟩ | exact ⟨rfl, Nat.le_of_ble_eq_true rfl⟩ | exact Nat.le_of_ble_eq_true rfl | (refine ⟨rfl, rfl, ?_⟩; simp [isFar, ofV0, CV.up, SV.renL, SV.ren] <;> fail) | (refine ⟨rfl, Nat.le_of_ble_eq_true rfl, ?_⟩; simp [isFar, ofV0, CV.up, SV.renL, SV.ren] <;> fail) | (simp only [List.length_append, List.length_drop, List.length_take, List.length_replicate, List.length_map]; omega) | (simp <;> fail))); conv => whnf) | (refine ⟨_, rfl, ?_⟩; conv => whnf)))
      refine ⟨_, _, WeakV.drop rfl, ?_⟩
      rw [← ht] at h
      simp only [trimL, if_neg hb] at h
      exact h
theorem trimL_k : Contract Tryd.prog [] 48 trimLS := ⟨⟨⟨_, rfl, rfl, rfl⟩⟩, trimL_c⟩
def trimRS : Spec := fun args H Q => match args, H with
  | [.str s, .int .u8 c], [] => c = 0 ∧ s.length ≤ 1000000000 ∧ Q (.str (trimR s)) []
  | _, _ => False
theorem trimR_c : Meets Tryd.prog [] 49 trimRS := by
  refine meets_of Γok Tryd.func49 rfl ?_
  intro args H Q h
  unfold trimRS at h
  split at h
  case h_2 => exact h.elim
  rename_i s c
  obtain ⟨rfl, hsl0, h⟩ := h
  (refine sx_sound Γok _ ?_; conv => whnf)
  refine loop_rule (fun t : List UInt8 => ⟨[.str t, .int .u8 0, .any, .any, .any, .any, .any, .any, .any, .any, .any, .any, .any, .any, .any, .any, .any, .any, .any, .any, .any, .any, .any], []⟩) (fun t => trimR t = trimR s ∧ t.length ≤ s.length) (fun t => t.length) s ⟨rfl, Nat.le_refl _⟩ (Weak.auto ?_) ?_
  · (repeat' ((conv => whnf); first | exact True.intro | (refine And.intro ?_ ?_)))
    all_goals first | rfl | exact .eq rfl
  rintro t ⟨ht, htl⟩
  rcases List.eq_nil_or_concat t with rfl | ⟨u, b, rfl⟩
  · (refine sx_sound Γok _ ?_; conv => whnf)
    (repeat (first | (exact Out.same; conv => whnf) | (exact Out1.same; conv => whnf) | (refine QAnd.mk ?_ ?_; conv => whnf) | (apply QStepH.go; conv => whnf) | (refine Both.lit_true ?_; conv => whnf) | (refine Both.lit_false ?_; conv => whnf) | (apply QStep.go; conv => whnf) | (refine Need.mk ?_ ?_; (focus (first | omega | exact ⟨by omega, by omega⟩ | rfl | exact ⟨rfl, rfl⟩ | exact ⟨rfl, by omega, by omega⟩ | exact ⟨by omega, by omega, by omega⟩ | exact ⟨rfl, Nat.le_of_ble_eq_true rfl⟩ | exact Nat.le_of_ble_eq_true rfl | (refine ⟨rfl, rfl, ?_⟩; simp [isFar, ofV0, CV.up, SV.renL, SV.ren] <;> fail) | (refine ⟨rfl, Nat.le_of_ble_eq_true rfl, ?_⟩; simp [isFar, ofV0, CV.up, SV.renL, SV.ren] <;> fail) | (simp only [List.length_append, List.length_drop, List.length_take, List.length_replicate, List.length_map]; omega) | (simp <;> fail))); conv => whnf) | (refine ⟨_, rfl, ?_⟩; conv => whnf)))
    refine ⟨_, _, WeakV.drop rfl, ?_⟩
    rw [← ht] at h
    exact h
  · rw [List.concat_eq_append] at ht htl ⊢
    have hlen : (u ++ [b]).length = u.length + 1 := by simp
    have hpos : decide ((0 : Int) < (((u ++ [b]).length : Nat) : Int)) = true := decide_eq_true (by omega)
    have hw : IntKind.i64.wrap ((((u ++ [b]).length : Nat) : Int) - 1) = ((u.length : Nat) : Int) := by
      rw [hlen, wrap_i64 (by omega) (by omega)]
      omega
    have hix : (0 : Int) ≤ IntKind.i64.wrap ((((u ++ [b]).length : Nat) : Int) - 1) ∧ IntKind.i64.wrap ((((u ++ [b]).length : Nat) : Int) - 1) < (((u ++ [b]).length : Nat) : Int) := by rw [hw]; omega
    have hsl : (0 : Int) ≤ IntKind.i64.wrap ((((u ++ [b]).length : Nat) : Int) - 1) ∧ IntKind.i64.wrap ((((u ++ [b]).length : Nat) : Int) - 1) ≤ (((u ++ [b]).length : Nat) : Int) := by rw [hw]; omega
    have hgt : (u ++ [b]).getD (IntKind.i64.wrap ((((u ++ [b]).length : Nat) : Int) - 1)).toNat 0 = b := by
      rw [hw, Int.toNat_natCast]
      simp
    (refine sx_sound Γok _ ?_; conv => whnf)
    (repeat (first | (refine Both.of_true hpos ?_; conv => whnf) | (refine Need.mk hix ?_; conv => whnf) | (exact Out.same; conv => whnf) | (exact Out1.same; conv => whnf) | (refine QAnd.mk ?_ ?_; conv => whnf) | (apply QStepH.go; conv => whnf) | (refine Both.lit_true ?_; conv => whnf) | (refine Both.lit_false ?_; conv => whnf) | (apply QStep.go; conv => whnf) | (refine Need.mk ?_ ?_; (focus (first | omega | exact ⟨by omega, by omega⟩ | rfl | exact ⟨rfl, rfl⟩ | exact ⟨rfl, by omega, by omega⟩ | exact ⟨by omega, by omega, by omega⟩ | exact ⟨rfl, Nat.le_of_ble_eq_true rfl⟩ | exact Nat.le_of_ble_eq_true rfl | (refine ⟨rfl, rfl, ?_⟩; simp [isFar, ofV0, CV.up, SV.renL, SV.ren] <;> fail) | (refine ⟨rfl, Nat.le_of_ble_eq_true rfl, ?_⟩; simp [isFar, ofV0, CV.up, SV.renL, SV.ren] <;> fail) | (simp only [List.length_append, List.length_drop, List.length_take, List.length_replicate, List.length_map]; omega) | (simp <;> fail))); conv => whnf) | (refine ⟨_, rfl, ?_⟩; conv => whnf)))
    refine Both.dec (fun hq => ?_) (fun hq => ?_)
    · rw [hgt] at hq
      have hb : b = 0 := UInt8.toNat_inj.1 (by have : ((b.toNat : Nat) : Int) = 0 := hq; exact Int.ofNat.inj this)
      subst hb
      have htk : List.drop (Int.toNat 0) (List.take (IntKind.i64.wrap ((((u ++ [(0 : UInt8)]).length : Nat) : Int) - 1)).toNat (u ++ [0])) = u := by
        rw [hw, Int.toNat_natCast]
        simp
      (conv => whnf)
      (repeat (first | (refine Need.mk hsl ?_; conv => whnf) | (exact Out.same; conv => whnf) | (exact Out1.same; conv => whnf) | (refine QAnd.mk ?_ ?_; conv => whnf) | (apply QStepH.go; conv => whnf) | (refine Both.lit_true ?_; conv => whnf) | (refine Both.lit_false ?_; conv => whnf) | (apply QStep.go; conv => whnf) | (refine Need.mk ?_ ?_; (focus (first | omega | exact ⟨by omega, by omega⟩ | rfl | exact ⟨rfl, rfl⟩ | exact ⟨rfl, by omega, by omega⟩ | exact ⟨by omega, by omega, by omega⟩ | exact ⟨rfl, Nat.le_of_ble_eq_true rfl⟩ | exact Nat.le_of_ble_eq_true rfl | (refine ⟨rfl, rfl, ?_⟩; simp [isFar, ofV0, CV.up, SV.renL, SV.ren] <;> fail) | (refine ⟨rfl, Nat.le_of_ble_eq_true rfl, ?_⟩; simp [isFar, ofV0, CV.up, SV.renL, SV.ren] <;> fail) | (simp only [List.length_append, List.length_drop, List.length_take, List.length_replicate, List.length_map]; omega) | (simp <;> fail))); conv => whnf) | (refine ⟨_, rfl, ?_⟩; conv => whnf)))
      refine ⟨u, ⟨?_, by omega⟩, by simp, Weak.auto ?_⟩
      · rw [← ht, trimR_zero]
      · (repeat' ((conv => whnf); first | exact True.intro | (refine And.intro ?_ ?_)))
        all_goals first | rfl | exact .eq rfl | exact congrArg SV.str htk
    · rw [hgt] at hq
      have hb : b ≠ 0 := fun e => hq (by rw [e]; rfl)
      (conv => whnf)
      (repeat (first | (exact Out.same; conv => whnf) | (exact Out1.same; conv => whnf) | (refine QAnd.mk ?_ ?_; conv => whnf) | (apply QStepH.go; conv => whnf) | (refine Both.lit_true ?_; conv => whnf) | (refine Both.lit_false ?_; conv => whnf) | (apply QStep.go; conv => whnf) | (refine Need.mk ?_ ?_; (focus (first | omega | exact ⟨by omega, by omega⟩ | rfl | exact ⟨rfl, rfl⟩ | exact ⟨rfl, by omega, by omega⟩ | exact ⟨by omega, by omega, by omega⟩ | exact ⟨rfl, Nat.le_of_ble_eq_true rfl⟩ | exact Nat.le_of_ble_eq_true rfl | (refine ⟨rfl, rfl, ?_⟩; simp [isFar, ofV0, CV.up, SV.renL, SV.ren] <;> fail) | (refine ⟨rfl, Nat.le_of_ble_eq_true rfl, ?_⟩; simp [isFar, ofV0, CV.up, SV.renL, SV.ren] <;> fail) | (simp only [List.length_append, List.length_drop, List.length_take, List.length_replicate, List.length_map]; omega) | (simp <;> fail))); conv => whnf) | (refine ⟨_, rfl, ?_⟩; conv => whnf)))
      refine ⟨_, _, WeakV.drop rfl, ?_⟩
      rw [← ht, trimR_some u hb] at h
      exact h
theorem trimR_k : Contract Tryd.prog [] 49 trimRS := ⟨⟨⟨_, rfl, rfl, rfl⟩⟩, trimR_c⟩
def trimS : Spec := fun args H Q => match args, H with
  | [.str s, .str c], [] => c = [0] ∧ s.length ≤ 1000000000 ∧ Q (.str (trimL (trimR s))) []
  | _, _ => False
theorem trim_c : Meets Tryd.prog [] 34 trimS := by
  refine meets_of Γok Tryd.func34 rfl ?_
  intro args H Q h
  unfold trimS at h
  split at h
  case h_2 => exact h.elim
  rename_i s c
  obtain ⟨rfl, hl, h⟩ := h
  cases s with
  | nil =>
    (refine sx_sound Γok _ ?_; conv => whnf)
    (repeat (first | (exact Out.same; conv => whnf) | (exact Out1.same; conv => whnf) | (refine QAnd.mk ?_ ?_; conv => whnf) | (apply QStepH.go; conv => whnf) | (refine Both.lit_true ?_; conv => whnf) | (refine Both.lit_false ?_; conv => whnf) | (apply QStep.go; conv => whnf) | (refine Need.mk ?_ ?_; (focus (first | omega | exact ⟨by omega, by omega⟩ | rfl | exact ⟨rfl, rfl⟩ | exact ⟨rfl, by omega, by omega⟩ | exact ⟨by omega, by omega, by omega⟩ | exact ⟨rfl, Nat.le_of_ble_eq_true rfl⟩ | exact Nat.le_of_ble_eq_true rfl | (refine ⟨rfl, rfl, ?_⟩; simp [isFar, ofV0, CV.up, SV.renL, SV.ren] <;> fail) | (refine ⟨rfl, Nat.le_of_ble_eq_true rfl, ?_⟩; simp [isFar, ofV0, CV.up, SV.renL, SV.ren] <;> fail) | (simp only [List.length_append, List.length_drop, List.length_take, List.length_replicate, List.length_map]; omega) | (simp <;> fail))); conv => whnf) | (refine ⟨_, rfl, ?_⟩; conv => whnf)))
    exact ⟨_, _, WeakV.drop rfl, h⟩
  | cons b t =>
    have hne : decide ((b :: t : List UInt8) = []) = false := by simp
    (refine sx_sound Γok _ ?_; conv => whnf)
    (repeat (first | (refine Both.of_false hne ?_; conv => whnf) | (exact Out.same; conv => whnf) | (exact Out1.same; conv => whnf) | (refine QAnd.mk ?_ ?_; conv => whnf) | (apply QStepH.go; conv => whnf) | (refine Both.lit_true ?_; conv => whnf) | (refine Both.lit_false ?_; conv => whnf) | (apply QStep.go; conv => whnf) | (refine Need.mk ?_ ?_; (focus (first | omega | exact ⟨by omega, by omega⟩ | rfl | exact ⟨rfl, rfl⟩ | exact ⟨rfl, by omega, by omega⟩ | exact ⟨by omega, by omega, by omega⟩ | exact ⟨rfl, Nat.le_of_ble_eq_true rfl⟩ | exact Nat.le_of_ble_eq_true rfl | (refine ⟨rfl, rfl, ?_⟩; simp [isFar, ofV0, CV.up, SV.renL, SV.ren] <;> fail) | (refine ⟨rfl, Nat.le_of_ble_eq_true rfl, ?_⟩; simp [isFar, ofV0, CV.up, SV.renL, SV.ren] <;> fail) | (simp only [List.length_append, List.length_drop, List.length_take, List.length_replicate, List.length_map]; omega) | (simp <;> fail))); conv => whnf) | (refine ⟨_, rfl, ?_⟩; conv => whnf)))
    (refine DrawVC.any Γok (by kernel_rfl) (by kernel_rfl) (by kernel_rfl) (by rfl) ?_; conv => whnf)
    (repeat (first | (refine CallVC.auto trimR_k ⟨rfl, hl, ?_⟩; conv => whnf) | (refine CallVC.auto trimL_k ⟨rfl, ?_⟩; conv => whnf) | (exact Out.same; conv => whnf) | (exact Out1.same; conv => whnf) | (refine QAnd.mk ?_ ?_; conv => whnf) | (apply QStepH.go; conv => whnf) | (refine Both.lit_true ?_; conv => whnf) | (refine Both.lit_false ?_; conv => whnf) | (apply QStep.go; conv => whnf) | (refine Need.mk ?_ ?_; (focus (first | omega | exact ⟨by omega, by omega⟩ | rfl | exact ⟨rfl, rfl⟩ | exact ⟨rfl, by omega, by omega⟩ | exact ⟨by omega, by omega, by omega⟩ | exact ⟨rfl, Nat.le_of_ble_eq_true rfl⟩ | exact Nat.le_of_ble_eq_true rfl | (refine ⟨rfl, rfl, ?_⟩; simp [isFar, ofV0, CV.up, SV.renL, SV.ren] <;> fail) | (refine ⟨rfl, Nat.le_of_ble_eq_true rfl, ?_⟩; simp [isFar, ofV0, CV.up, SV.renL, SV.ren] <;> fail) | (simp only [List.length_append, List.length_drop, List.length_take, List.length_replicate, List.length_map]; omega) | (simp <;> fail))); conv => whnf) | (refine ⟨_, rfl, ?_⟩; conv => whnf)))
    exact ⟨_, _, WeakV.drop rfl, h⟩
theorem trim_k : Contract Tryd.prog [] 34 trimS := ⟨⟨⟨_, rfl, rfl, rfl⟩⟩, trim_c⟩
end Go.LX
