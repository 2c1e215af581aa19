import Derived.Test.YtiokggkoidiicaaDoorFq
set_option maxRecDepth 100000
set_option maxHeartbeats 2000000
set_option autoImplicit false
set_option linter.unusedVariables false
set_option linter.unusedSimpArgs false
namespace Go.LX
open Go.Proofs

/-! ## The records at the front: walked -/
def scanS : Spec := fun args H Q => match args, H with
  | [.int .i64 z, .int .u64 g, .str s], [] => ∃ gn : Nat, g = gn ∧ gn < 18446744073709551616 ∧ s.length ≤ 100000000 ∧ (rightN z = false → Q (.tuple [.nilsl, .int .i64 0]) []) ∧
    (rightN z = true → ∀ l : List Bz, ∀ n : Nat, scanA z.toNat gn s = (l, n) → Q (.tuple [.own 0, .int .i64 (n : Int)]) [.own 9 1 l.length (strL l) true])
  | _, _ => False
theorem drop_cut (s : Bz) (u : Nat) : List.drop ((u : Nat) : Int).toNat (List.take ((s.length : Nat) : Int).toNat s) = s.drop u := by
  rw [Int.toNat_natCast, Int.toNat_natCast, List.take_length]
theorem fscan_c : Meets Tryd.prog [] 8 scanS := by
  refine meets_of Γok Tryd.func8 rfl ?_
  intro args H Q h
  unfold scanS at h
  split at h
  case h_2 => exact h.elim
  rename_i z g s
  obtain ⟨gn, rfl, hg, hl, hbad, hgood⟩ := h
  by_cases hr : rightN z = false
  · have h := hbad hr
    have h1 : (!rightN z) = true := by rw [hr]; rfl
    (refine sx_sound Γok _ ?_; conv => whnf)
    (repeat (first | (refine Both.of_true h1 ?_; conv => whnf) | (exact Out.same; conv => whnf) | (exact Out1.same; conv => whnf) | (refine QAnd.mk ?_ ?_; conv => whnf) | (apply QStepH.go; conv => whnf) | (refine Both.lit_true ?_; conv => whnf) | (refine Both.lit_false ?_; conv => whnf) | (apply QStep.go; conv => whnf) | (refine Need.mk ?_ ?_; (focus (first | omega | exact ⟨by omega, by omega⟩ | rfl | exact ⟨rfl, rfl⟩ | exact ⟨rfl, by omega, by omega⟩ | exact ⟨by omega, by omega, by omega⟩ | exact ⟨rfl, Nat.le_of_ble_eq_true rfl⟩ | exact Nat.le_of_ble_eq_true rfl | (refine ⟨rfl, rfl, ?_⟩; simp [isFar, ofV0, CV.up, SV.renL, SV.ren] <;> fail) | (refine ⟨rfl, Nat.le_of_ble_eq_true rfl, ?_⟩; simp [isFar, ofV0, CV.up, SV.renL, SV.ren] <;> fail) | (simp only [List.length_append, List.length_drop, List.length_take, List.length_replicate, List.length_map]; omega) | (simp <;> fail))); conv => whnf) | (refine ⟨_, rfl, ?_⟩; conv => whnf) | (refine CallVC.auto fright_k ?_; conv => whnf)))
    exact ⟨_, _, WeakV.drop rfl, h⟩
  have hr : rightN z = true := by simpa using hr
  have h1 : (!rightN z) = false := by rw [hr]; rfl
  have hrz : 64 ≤ z ∧ z ≤ 512 := of_decide_eq_true hr
  obtain ⟨zn, rfl⟩ := Int.eq_ofNat_of_zero_le (show 0 ≤ z by omega)
  obtain ⟨ans, hans⟩ : ∃ ans, scanA zn gn s = ans := ⟨_, rfl⟩
  have h := hgood hr ans.1 ans.2 (by rw [Int.toNat_natCast]; exact hans)
  clear hbad hgood
  have hz8 : 64 ≤ zn ∧ zn ≤ 512 := by omega
  (refine sx_sound Γok _ ?_; conv => whnf)
  (repeat (first | (refine Both.of_false h1 ?_; conv => whnf) | (exact Out.same; conv => whnf) | (exact Out1.same; conv => whnf) | (refine QAnd.mk ?_ ?_; conv => whnf) | (apply QStepH.go; conv => whnf) | (refine Both.lit_true ?_; conv => whnf) | (refine Both.lit_false ?_; conv => whnf) | (apply QStep.go; conv => whnf) | (refine Need.mk ?_ ?_; (focus (first | omega | exact ⟨by omega, by omega⟩ | rfl | exact ⟨rfl, rfl⟩ | exact ⟨rfl, by omega, by omega⟩ | exact ⟨by omega, by omega, by omega⟩ | exact ⟨rfl, Nat.le_of_ble_eq_true rfl⟩ | exact Nat.le_of_ble_eq_true rfl | (refine ⟨rfl, rfl, ?_⟩; simp [isFar, ofV0, CV.up, SV.renL, SV.ren] <;> fail) | (refine ⟨rfl, Nat.le_of_ble_eq_true rfl, ?_⟩; simp [isFar, ofV0, CV.up, SV.renL, SV.ren] <;> fail) | (simp only [List.length_append, List.length_drop, List.length_take, List.length_replicate, List.length_map]; omega) | (simp <;> fail))); conv => whnf) | (refine ⟨_, rfl, ?_⟩; conv => whnf) | (refine CallVC.auto fright_k ?_; conv => whnf)))
  refine loop_rule (fun x : Nat × Nat × List Bz => match x with | (f, u, out) => ⟨[.int .i64 (zn : Int), .int .u64 (gn : Int), .str s, .any, .any, .any, .any, .any, .own 0, .int .i64 (u : Int), .int .u64 ((out.length : Nat) : Int), .any, .any, .any, .any, .any, .any, .any, .any, .any, .any, .any, .any, .any, .any, .any, .any, .any, .any, .any, .any, .any, .any, .any, .any, .any, .any, .any, .any, .any, .any], [.own 9 1 out.length (strL out) true]⟩) (fun x => match x with | (f, u, out) => scanX zn gn s f u out = ans ∧ s.length < f + u ∧ u * zn ≤ s.length ∧ out.length ≤ u) (fun x => match x with | (f, u, out) => f) (s.length + 1, 0, []) ⟨hans, Nat.lt_succ_self _, by rw [Nat.zero_mul]; exact Nat.zero_le _, Nat.le_refl _⟩ ((Weak.ownNilT 8 9 1 rfl).trans (Weak.auto ?_)) ?_
  · (repeat' ((conv => whnf); first | exact True.intro | (refine And.intro ?_ ?_)))
    all_goals first | rfl | exact .eq rfl
  rintro ⟨f, u, out⟩ ⟨hI, hfu, huz, hou⟩
  have huu : u * 1 ≤ u * zn := Nat.mul_le_mul_left _ (by omega)
  have hw : IntKind.i64.wrap ((u : Int) * (zn : Int)) = ((u * zn : Nat) : Int) := by rw [← Int.natCast_mul, wrap_i64 (by omega) (by omega)]
  have n0 : (0 : Int) ≤ IntKind.i64.wrap ((u : Int) * (zn : Int)) ∧ IntKind.i64.wrap ((u : Int) * (zn : Int)) ≤ ((s.length : Nat) : Int) := by rw [hw]; omega
  have hser : IntKind.u64.wrap ((out.length : Nat) : Int) = ((out.length : Nat) : Int) := wrap_u64 (by omega) (by omega)
  have hcap : (out.length + 1) * ti9.bytes ≤ 140737488355328 := by
    show (out.length + 1) * 16 ≤ _
    omega
  have hdl : (s.drop (u * zn)).length ≤ 100000000 := by rw [List.length_drop]; omega
  (refine sx_sound Γok _ ?_; conv => whnf)
  (repeat (first | (refine Need.mk n0 ?_; conv => whnf) | (exact Out.same; conv => whnf) | (exact Out1.same; conv => whnf) | (refine QAnd.mk ?_ ?_; conv => whnf) | (apply QStepH.go; conv => whnf) | (refine Both.lit_true ?_; conv => whnf) | (refine Both.lit_false ?_; conv => whnf) | (apply QStep.go; conv => whnf) | (refine Need.mk ?_ ?_; (focus (first | omega | exact ⟨by omega, by omega⟩ | rfl | exact ⟨rfl, rfl⟩ | exact ⟨rfl, by omega, by omega⟩ | exact ⟨by omega, by omega, by omega⟩ | exact ⟨rfl, Nat.le_of_ble_eq_true rfl⟩ | exact Nat.le_of_ble_eq_true rfl | (refine ⟨rfl, rfl, ?_⟩; simp [isFar, ofV0, CV.up, SV.renL, SV.ren] <;> fail) | (refine ⟨rfl, Nat.le_of_ble_eq_true rfl, ?_⟩; simp [isFar, ofV0, CV.up, SV.renL, SV.ren] <;> fail) | (simp only [List.length_append, List.length_drop, List.length_take, List.length_replicate, List.length_map]; omega) | (simp <;> fail))); conv => whnf) | (refine ⟨_, rfl, ?_⟩; conv => whnf)))
  simp only [hw, drop_cut]
  refine CallVC.auto frec_k ⟨zn, gn, out.length, rfl, rfl, rfl, hz8.1, hz8.2, hdl, ?_⟩
  intro t n htn
  (conv => whnf)
  (repeat (first | (exact Out.same; conv => whnf) | (exact Out1.same; conv => whnf) | (refine QAnd.mk ?_ ?_; conv => whnf) | (apply QStepH.go; conv => whnf) | (refine Both.lit_true ?_; conv => whnf) | (refine Both.lit_false ?_; conv => whnf) | (apply QStep.go; conv => whnf) | (refine Need.mk ?_ ?_; (focus (first | omega | exact ⟨by omega, by omega⟩ | rfl | exact ⟨rfl, rfl⟩ | exact ⟨rfl, by omega, by omega⟩ | exact ⟨by omega, by omega, by omega⟩ | exact ⟨rfl, Nat.le_of_ble_eq_true rfl⟩ | exact Nat.le_of_ble_eq_true rfl | (refine ⟨rfl, rfl, ?_⟩; simp [isFar, ofV0, CV.up, SV.renL, SV.ren] <;> fail) | (refine ⟨rfl, Nat.le_of_ble_eq_true rfl, ?_⟩; simp [isFar, ofV0, CV.up, SV.renL, SV.ren] <;> fail) | (simp only [List.length_append, List.length_drop, List.length_take, List.length_replicate, List.length_map]; omega) | (simp <;> fail))); conv => whnf) | (refine ⟨_, rfl, ?_⟩; conv => whnf)))
  refine Both.dec (fun h2 => ?_) (fun h2 => ?_)
  · have hstop : ans = (out, u) := by
      rw [← hI]
      exact scanX_stop (by rw [htn]; show n = 0; omega) f
    rw [hstop] at h
    (conv => whnf)
    (repeat (first | (exact Out.same; conv => whnf) | (exact Out1.same; conv => whnf) | (refine QAnd.mk ?_ ?_; conv => whnf) | (apply QStepH.go; conv => whnf) | (refine Both.lit_true ?_; conv => whnf) | (refine Both.lit_false ?_; conv => whnf) | (apply QStep.go; conv => whnf) | (refine Need.mk ?_ ?_; (focus (first | omega | exact ⟨by omega, by omega⟩ | rfl | exact ⟨rfl, rfl⟩ | exact ⟨rfl, by omega, by omega⟩ | exact ⟨by omega, by omega, by omega⟩ | exact ⟨rfl, Nat.le_of_ble_eq_true rfl⟩ | exact Nat.le_of_ble_eq_true rfl | (refine ⟨rfl, rfl, ?_⟩; simp [isFar, ofV0, CV.up, SV.renL, SV.ren] <;> fail) | (refine ⟨rfl, Nat.le_of_ble_eq_true rfl, ?_⟩; simp [isFar, ofV0, CV.up, SV.renL, SV.ren] <;> fail) | (simp only [List.length_append, List.length_drop, List.length_take, List.length_replicate, List.length_map]; omega) | (simp <;> fail))); conv => whnf) | (refine ⟨_, rfl, ?_⟩; conv => whnf)))
    refine ⟨_, _, WeakV.auto ?_, h⟩
    (repeat' ((conv => whnf); first | exact True.intro | (refine And.intro ?_ ?_)))
    all_goals first | rfl | exact .eq rfl
  · have hn0 : n ≠ 0 := by omega
    obtain ⟨f, rfl⟩ : ∃ f', f = f' + 1 := ⟨f - 1, by omega⟩
    have hgo := scanX_go (z := zn) (g := gn) (T := s) (used := u) (out := out) (f := f) (by rw [htn]; exact hn0)
    rw [htn] at hgo
    have hgo : scanX zn gn s f (u + n) (out ++ [t]) = ans := hgo.symm.trans hI
    have hroom := recA_room zn gn out.length (s.drop (u * zn)) (by rw [htn]; exact hn0)
    rw [htn, List.length_drop] at hroom
    have hroom : n * zn ≤ s.length - u * zn := hroom
    have hA : s.length < f + (u + n) := by omega
    have hB : (u + n) * zn ≤ s.length := by rw [Nat.add_mul]; omega
    have hC : (out ++ [t]).length ≤ u + n := by rw [List.length_append, List.length_singleton]; omega
    have huu2 : (u + n) * 1 ≤ (u + n) * zn := Nat.mul_le_mul_left _ (by omega)
    have hwn : IntKind.i64.wrap ((u : Int) + (n : Int)) = ((u + n : Nat) : Int) := by rw [wrap_i64 (by omega) (by omega)]; rfl
    have hws : IntKind.u64.wrap (((out.length : Nat) : Int) + 1) = (((out ++ [t]).length : Nat) : Int) := by rw [wrap_u64 (by omega) (by omega), List.length_append]; rfl
    have end1 : strL out ++ [CV.str t] = strL (out ++ [t]) := by simp [strL]
    have end2 : LObj.own 9 1 (out.length + 1) (strL out ++ [CV.str t]) true = .own 9 1 (out ++ [t]).length (strL (out ++ [t])) true := by rw [end1, List.length_append]; rfl
    (conv => whnf)
    (repeat (first | (refine Need.mk hcap ?_; conv => whnf) | (exact Out.same; conv => whnf) | (exact Out1.same; conv => whnf) | (refine QAnd.mk ?_ ?_; conv => whnf) | (apply QStepH.go; conv => whnf) | (refine Both.lit_true ?_; conv => whnf) | (refine Both.lit_false ?_; conv => whnf) | (apply QStep.go; conv => whnf) | (refine Need.mk ?_ ?_; (focus (first | omega | exact ⟨by omega, by omega⟩ | rfl | exact ⟨rfl, rfl⟩ | exact ⟨rfl, by omega, by omega⟩ | exact ⟨by omega, by omega, by omega⟩ | exact ⟨rfl, Nat.le_of_ble_eq_true rfl⟩ | exact Nat.le_of_ble_eq_true rfl | (refine ⟨rfl, rfl, ?_⟩; simp [isFar, ofV0, CV.up, SV.renL, SV.ren] <;> fail) | (refine ⟨rfl, Nat.le_of_ble_eq_true rfl, ?_⟩; simp [isFar, ofV0, CV.up, SV.renL, SV.ren] <;> fail) | (simp only [List.length_append, List.length_drop, List.length_take, List.length_replicate, List.length_map]; omega) | (simp <;> fail))); conv => whnf) | (refine ⟨_, rfl, ?_⟩; conv => whnf)))
    refine ⟨(f, u + n, out ++ [t]), ⟨hgo, hA, hB, hC⟩, Nat.lt_succ_self f, Weak.auto ?_⟩
    (repeat' ((conv => whnf); first | exact True.intro | (refine And.intro ?_ ?_)))
    all_goals first | rfl | exact .eq rfl | exact congrArg (SV.int .i64) hwn | exact congrArg (SV.int .u64) hws | exact end2
theorem fscan_k : Contract Tryd.prog [] 8 scanS := ⟨⟨⟨_, rfl, rfl, rfl⟩⟩, fscan_c⟩
theorem rscan_c : Meets Tryd.prog [] 9 scanS := by
  refine meets_of Γok Tryd.func9 rfl ?_
  intro args H Q h
  unfold scanS at h
  split at h
  case h_2 => exact h.elim
  rename_i z g s
  obtain ⟨gn, rfl, hg, hl, hbad, hgood⟩ := h
  by_cases hr : rightN z = false
  · have h := hbad hr
    have h1 : (!rightN z) = true := by rw [hr]; rfl
    (refine sx_sound Γok _ ?_; conv => whnf)
    (repeat (first | (refine Both.of_true h1 ?_; conv => whnf) | (exact Out.same; conv => whnf) | (exact Out1.same; conv => whnf) | (refine QAnd.mk ?_ ?_; conv => whnf) | (apply QStepH.go; conv => whnf) | (refine Both.lit_true ?_; conv => whnf) | (refine Both.lit_false ?_; conv => whnf) | (apply QStep.go; conv => whnf) | (refine Need.mk ?_ ?_; (focus (first | omega | exact ⟨by omega, by omega⟩ | rfl | exact ⟨rfl, rfl⟩ | exact ⟨rfl, by omega, by omega⟩ | exact ⟨by omega, by omega, by omega⟩ | exact ⟨rfl, Nat.le_of_ble_eq_true rfl⟩ | exact Nat.le_of_ble_eq_true rfl | (refine ⟨rfl, rfl, ?_⟩; simp [isFar, ofV0, CV.up, SV.renL, SV.ren] <;> fail) | (refine ⟨rfl, Nat.le_of_ble_eq_true rfl, ?_⟩; simp [isFar, ofV0, CV.up, SV.renL, SV.ren] <;> fail) | (simp only [List.length_append, List.length_drop, List.length_take, List.length_replicate, List.length_map]; omega) | (simp <;> fail))); conv => whnf) | (refine ⟨_, rfl, ?_⟩; conv => whnf) | (refine CallVC.auto fright2_k ?_; conv => whnf)))
    exact ⟨_, _, WeakV.drop rfl, h⟩
  have hr : rightN z = true := by simpa using hr
  have h1 : (!rightN z) = false := by rw [hr]; rfl
  have hrz : 64 ≤ z ∧ z ≤ 512 := of_decide_eq_true hr
  obtain ⟨zn, rfl⟩ := Int.eq_ofNat_of_zero_le (show 0 ≤ z by omega)
  obtain ⟨ans, hans⟩ : ∃ ans, scanA zn gn s = ans := ⟨_, rfl⟩
  have h := hgood hr ans.1 ans.2 (by rw [Int.toNat_natCast]; exact hans)
  clear hbad hgood
  have hz8 : 64 ≤ zn ∧ zn ≤ 512 := by omega
  (refine sx_sound Γok _ ?_; conv => whnf)
  (repeat (first | (refine Both.of_false h1 ?_; conv => whnf) | (exact Out.same; conv => whnf) | (exact Out1.same; conv => whnf) | (refine QAnd.mk ?_ ?_; conv => whnf) | (apply QStepH.go; conv => whnf) | (refine Both.lit_true ?_; conv => whnf) | (refine Both.lit_false ?_; conv => whnf) | (apply QStep.go; conv => whnf) | (refine Need.mk ?_ ?_; (focus (first | omega | exact ⟨by omega, by omega⟩ | rfl | exact ⟨rfl, rfl⟩ | exact ⟨rfl, by omega, by omega⟩ | exact ⟨by omega, by omega, by omega⟩ | exact ⟨rfl, Nat.le_of_ble_eq_true rfl⟩ | exact Nat.le_of_ble_eq_true rfl | (refine ⟨rfl, rfl, ?_⟩; simp [isFar, ofV0, CV.up, SV.renL, SV.ren] <;> fail) | (refine ⟨rfl, Nat.le_of_ble_eq_true rfl, ?_⟩; simp [isFar, ofV0, CV.up, SV.renL, SV.ren] <;> fail) | (simp only [List.length_append, List.length_drop, List.length_take, List.length_replicate, List.length_map]; omega) | (simp <;> fail))); conv => whnf) | (refine ⟨_, rfl, ?_⟩; conv => whnf) | (refine CallVC.auto fright2_k ?_; conv => whnf)))
  refine loop_rule (fun x : Nat × Nat × List Bz => match x with | (f, u, out) => ⟨[.int .i64 (zn : Int), .int .u64 (gn : Int), .str s, .any, .any, .any, .any, .any, .own 0, .int .i64 (u : Int), .any, .any, .any, .any, .any, .any, .any, .any, .any, .any, .any, .any, .any, .any, .any, .any, .any, .any, .any, .any, .any, .any, .any, .any, .any, .any, .any, .any, .any, .any], [.own 9 1 out.length (strL out) true]⟩) (fun x => match x with | (f, u, out) => scanX zn gn s f u out = ans ∧ s.length < f + u ∧ u * zn ≤ s.length ∧ out.length ≤ u) (fun x => match x with | (f, u, out) => f) (s.length + 1, 0, []) ⟨hans, Nat.lt_succ_self _, by rw [Nat.zero_mul]; exact Nat.zero_le _, Nat.le_refl _⟩ ((Weak.ownNilT 8 9 1 rfl).trans (Weak.auto ?_)) ?_
  · (repeat' ((conv => whnf); first | exact True.intro | (refine And.intro ?_ ?_)))
    all_goals first | rfl | exact .eq rfl
  rintro ⟨f, u, out⟩ ⟨hI, hfu, huz, hou⟩
  have huu : u * 1 ≤ u * zn := Nat.mul_le_mul_left _ (by omega)
  have hw : IntKind.i64.wrap ((u : Int) * (zn : Int)) = ((u * zn : Nat) : Int) := by rw [← Int.natCast_mul, wrap_i64 (by omega) (by omega)]
  have n0 : (0 : Int) ≤ IntKind.i64.wrap ((u : Int) * (zn : Int)) ∧ IntKind.i64.wrap ((u : Int) * (zn : Int)) ≤ ((s.length : Nat) : Int) := by rw [hw]; omega
  have hser : IntKind.u64.wrap ((out.length : Nat) : Int) = ((out.length : Nat) : Int) := wrap_u64 (by omega) (by omega)
  have hcap : (out.length + 1) * ti9.bytes ≤ 140737488355328 := by
    show (out.length + 1) * 16 ≤ _
    omega
  have hdl : (s.drop (u * zn)).length ≤ 100000000 := by rw [List.length_drop]; omega
  (refine sx_sound Γok _ ?_; conv => whnf)
  (repeat (first | (refine Need.mk n0 ?_; conv => whnf) | (exact Out.same; conv => whnf) | (exact Out1.same; conv => whnf) | (refine QAnd.mk ?_ ?_; conv => whnf) | (apply QStepH.go; conv => whnf) | (refine Both.lit_true ?_; conv => whnf) | (refine Both.lit_false ?_; conv => whnf) | (apply QStep.go; conv => whnf) | (refine Need.mk ?_ ?_; (focus (first | omega | exact ⟨by omega, by omega⟩ | rfl | exact ⟨rfl, rfl⟩ | exact ⟨rfl, by omega, by omega⟩ | exact ⟨by omega, by omega, by omega⟩ | exact ⟨rfl, Nat.le_of_ble_eq_true rfl⟩ | exact Nat.le_of_ble_eq_true rfl | (refine ⟨rfl, rfl, ?_⟩; simp [isFar, ofV0, CV.up, SV.renL, SV.ren] <;> fail) | (refine ⟨rfl, Nat.le_of_ble_eq_true rfl, ?_⟩; simp [isFar, ofV0, CV.up, SV.renL, SV.ren] <;> fail) | (simp only [List.length_append, List.length_drop, List.length_take, List.length_replicate, List.length_map]; omega) | (simp <;> fail))); conv => whnf) | (refine ⟨_, rfl, ?_⟩; conv => whnf)))
  simp only [hw, drop_cut]
  refine CallVC.auto rrec_k ⟨zn, gn, out.length, rfl, rfl, hser, hz8.1, hz8.2, hdl, ?_⟩
  intro t n htn
  (conv => whnf)
  (repeat (first | (exact Out.same; conv => whnf) | (exact Out1.same; conv => whnf) | (refine QAnd.mk ?_ ?_; conv => whnf) | (apply QStepH.go; conv => whnf) | (refine Both.lit_true ?_; conv => whnf) | (refine Both.lit_false ?_; conv => whnf) | (apply QStep.go; conv => whnf) | (refine Need.mk ?_ ?_; (focus (first | omega | exact ⟨by omega, by omega⟩ | rfl | exact ⟨rfl, rfl⟩ | exact ⟨rfl, by omega, by omega⟩ | exact ⟨by omega, by omega, by omega⟩ | exact ⟨rfl, Nat.le_of_ble_eq_true rfl⟩ | exact Nat.le_of_ble_eq_true rfl | (refine ⟨rfl, rfl, ?_⟩; simp [isFar, ofV0, CV.up, SV.renL, SV.ren] <;> fail) | (refine ⟨rfl, Nat.le_of_ble_eq_true rfl, ?_⟩; simp [isFar, ofV0, CV.up, SV.renL, SV.ren] <;> fail) | (simp only [List.length_append, List.length_drop, List.length_take, List.length_replicate, List.length_map]; omega) | (simp <;> fail))); conv => whnf) | (refine ⟨_, rfl, ?_⟩; conv => whnf)))
  refine Both.dec (fun h2 => ?_) (fun h2 => ?_)
  · have hstop : ans = (out, u) := by
      rw [← hI]
      exact scanX_stop (by rw [htn]; show n = 0; omega) f
    rw [hstop] at h
    (conv => whnf)
    (repeat (first | (exact Out.same; conv => whnf) | (exact Out1.same; conv => whnf) | (refine QAnd.mk ?_ ?_; conv => whnf) | (apply QStepH.go; conv => whnf) | (refine Both.lit_true ?_; conv => whnf) | (refine Both.lit_false ?_; conv => whnf) | (apply QStep.go; conv => whnf) | (refine Need.mk ?_ ?_; (focus (first | omega | exact ⟨by omega, by omega⟩ | rfl | exact ⟨rfl, rfl⟩ | exact ⟨rfl, by omega, by omega⟩ | exact ⟨by omega, by omega, by omega⟩ | exact ⟨rfl, Nat.le_of_ble_eq_true rfl⟩ | exact Nat.le_of_ble_eq_true rfl | (refine ⟨rfl, rfl, ?_⟩; simp [isFar, ofV0, CV.up, SV.renL, SV.ren] <;> fail) | (refine ⟨rfl, Nat.le_of_ble_eq_true rfl, ?_⟩; simp [isFar, ofV0, CV.up, SV.renL, SV.ren] <;> fail) | (simp only [List.length_append, List.length_drop, List.length_take, List.length_replicate, List.length_map]; omega) | (simp <;> fail))); conv => whnf) | (refine ⟨_, rfl, ?_⟩; conv => whnf)))
    refine ⟨_, _, WeakV.auto ?_, h⟩
    (repeat' ((conv => whnf); first | exact True.intro | (refine And.intro ?_ ?_)))
    all_goals first | rfl | exact .eq rfl
  · have hn0 : n ≠ 0 := by omega
    obtain ⟨f, rfl⟩ : ∃ f', f = f' + 1 := ⟨f - 1, by omega⟩
    have hgo := scanX_go (z := zn) (g := gn) (T := s) (used := u) (out := out) (f := f) (by rw [htn]; exact hn0)
    rw [htn] at hgo
    have hgo : scanX zn gn s f (u + n) (out ++ [t]) = ans := hgo.symm.trans hI
    have hroom := recA_room zn gn out.length (s.drop (u * zn)) (by rw [htn]; exact hn0)
    rw [htn, List.length_drop] at hroom
    have hroom : n * zn ≤ s.length - u * zn := hroom
    have hA : s.length < f + (u + n) := by omega
    have hB : (u + n) * zn ≤ s.length := by rw [Nat.add_mul]; omega
    have hC : (out ++ [t]).length ≤ u + n := by rw [List.length_append, List.length_singleton]; omega
    have huu2 : (u + n) * 1 ≤ (u + n) * zn := Nat.mul_le_mul_left _ (by omega)
    have hwn : IntKind.i64.wrap ((u : Int) + (n : Int)) = ((u + n : Nat) : Int) := by rw [wrap_i64 (by omega) (by omega)]; rfl
    have hws : IntKind.u64.wrap (((out.length : Nat) : Int) + 1) = (((out ++ [t]).length : Nat) : Int) := by rw [wrap_u64 (by omega) (by omega), List.length_append]; rfl
    have end1 : strL out ++ [CV.str t] = strL (out ++ [t]) := by simp [strL]
    have end2 : LObj.own 9 1 (out.length + 1) (strL out ++ [CV.str t]) true = .own 9 1 (out ++ [t]).length (strL (out ++ [t])) true := by rw [end1, List.length_append]; rfl
    (conv => whnf)
    (repeat (first | (refine Need.mk hcap ?_; conv => whnf) | (exact Out.same; conv => whnf) | (exact Out1.same; conv => whnf) | (refine QAnd.mk ?_ ?_; conv => whnf) | (apply QStepH.go; conv => whnf) | (refine Both.lit_true ?_; conv => whnf) | (refine Both.lit_false ?_; conv => whnf) | (apply QStep.go; conv => whnf) | (refine Need.mk ?_ ?_; (focus (first | omega | exact ⟨by omega, by omega⟩ | rfl | exact ⟨rfl, rfl⟩ | exact ⟨rfl, by omega, by omega⟩ | exact ⟨by omega, by omega, by omega⟩ | exact ⟨rfl, Nat.le_of_ble_eq_true rfl⟩ | exact Nat.le_of_ble_eq_true rfl | (refine ⟨rfl, rfl, ?_⟩; simp [isFar, ofV0, CV.up, SV.renL, SV.ren] <;> fail) | (refine ⟨rfl, Nat.le_of_ble_eq_true rfl, ?_⟩; simp [isFar, ofV0, CV.up, SV.renL, SV.ren] <;> fail) | (simp only [List.length_append, List.length_drop, List.length_take, List.length_replicate, List.length_map]; omega) | (simp <;> fail))); conv => whnf) | (refine ⟨_, rfl, ?_⟩; conv => whnf)))
    refine ⟨(f, u + n, out ++ [t]), ⟨hgo, hA, hB, hC⟩, Nat.lt_succ_self f, Weak.auto ?_⟩
    (repeat' ((conv => whnf); first | exact True.intro | (refine And.intro ?_ ?_)))
    all_goals first | rfl | exact .eq rfl | exact congrArg (SV.int .i64) hwn | exact congrArg (SV.int .u64) hws | exact end2
theorem rscan_k : Contract Tryd.prog [] 9 scanS := ⟨⟨⟨_, rfl, rfl, rfl⟩⟩, rscan_c⟩
end Go.LX
